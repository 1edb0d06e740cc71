/- spec.l15Rela -/
import Derived.Test.YtfcjhpodichpjaaDoorV02
import Derived.Test.YtfcjhpodichpjaaDoorV01
import Derived.Laws.Strings
set_option maxHeartbeats 4000000
set_option maxRecDepth 100000
namespace Go.Proofs.YtfcjhpodichpjaaDoor
open Go Go.RowKit
theorem own_some {w:World} {base:Nat} {e:TypeId} {size n:Nat} {v:Value} {xs:List Value}(h:w.ownsRow base e size v n xs)(hn:0<n):∃ g c,v=.slice (some ⟨g,0,none⟩) n c∧base≤g:=by
 rcases h.2 with ⟨_,h0⟩|⟨g,cap,cur,hv,hg,_⟩
 ·omega
 ·exact⟨g,cap,hv,hg⟩
theorem ok_false {es es':List Edg} {p q:Nat} {R:List Nat} {i j:Nat}(h:Few p es)(h':Few q es'):Ok false es es' (rel R) i j↔es.all (folE es' R i j)=true:=by
 rw [fol_iff h h']
 exact⟨fun x=>x.1,fun x=>⟨x,fun h=>by cases h⟩⟩
theorem ok_true {es es':List Edg} {p q:Nat} {R:List Nat} {i j:Nat}(h:Few p es)(h':Few q es'):Ok true es es' (rel R) i j↔es.all (folE es' R i j)=true∧es'.all (bakE p es R i j)=true:=by
 rw [fol_iff h h',bak_iff h h']
 exact⟨fun x=>⟨x.1,x.2 rfl⟩,fun x=>⟨x.1,fun _=>x.2⟩⟩
theorem zbL (k v:Nat):zF (List.replicate k v)++[Value.int .i64 (v:Nat)]=zF (List.replicate (k+1) v):=by rw [List.replicate_succ',zdh];rfl
def boolN:Value→Nat
 |.bool true=>1
 |_=>0
theorem yV03b1 {P:Prop}(h:P:=by
 clear hw8e
 have hown8:=zm zep hx8
 have hst:=hown8.stored k (.int .i64 ((v - y:Nat):Nat))
 rw [← zcT] at hst
 have hc8:w8.drew.cell? ⟨g,k,none⟩=some (.int .i64 (v:Nat)):=hx8.cell_some hc0
 have hc8':w8.cell? ⟨g,k,none⟩=some (.int .i64 (v:Nat)):=hc8
 have hf8:w8.drew.frozen? ⟨g,k,none⟩=false:=hown8.frozenAt k
 have hx9:Ext wr w8.drew:=hx8.drew
 have hst9:(w8.drew.setCell ⟨g,k,none⟩ (.int .i64 ((v - y:Nat):Nat))).ownsRow w0.heap.size 3 1 (.slice (some ⟨g,0,none⟩) p c2) p (zF (S.set k (v - y))):=hst.1
 have hkp0:(0:Int)≤(k:Int):=by omega
 have hkp1:(k:Int)<(p:Int):=by omega
 clear hvb hst e1 e2
 go_still_tail 10,(by kernel_rfl)
 still_call ((CY.out _).mono fun e w' h=>⟨h.1,h.2.symm⟩)
 repeat still_step
 try refine wpStill_nil ?_
 change wpList _ _ _ _ _ w8.drew
 generalize w8.drew=w9 at *
 go_wp2_with fail
 go_roundw
 case rel=>exact⟨x+1,by omega,by go_num,true,S.set k (v - y),rfl,by rw [hcast.out];exact hst9,hd.out,(zer.trans hx9).setCell (by dsimp only;omega) _,(fun h=>by cases h),fun _=>Nat.lt_of_lt_of_le hsd.out (by
  cases ch
  ·rw [(hno rfl).1];exact Nat.le_refl _
  ·exact Nat.le_of_lt (hyes rfl))⟩
 case measure=>simp [intOf];omega
 ):P:=h
def RetRel (w:World) (both:Bool) (s t:Sys) (p q:Nat) (e:Ending) (w':World):Prop:=
 ∃ g c R,e=.returned (.slice (some ⟨g,0,none⟩) p c)∧w'.ownsRow w.heap.size 3 1 (.slice (some ⟨g,0,none⟩) p c) p (zF R)∧Gfp both s.edges t.edges p q R∧Ext w w'
theorem yV03a1 {P:Prop}(h:P:=by
 go_wp2_with (first|(go_at_call 33;refine (zA v x hvs _ (by omega)).mono ?_;rw [Hb1.out];rintro e w' ⟨rfl,rfl⟩)|(go_at_call 69;with_reducible refine (hCF.out).mono ?_;rw [Hfo.out];rintro e w5 ⟨rfl,hx5⟩))
 have hvb:v.testBit x=true:=Hb1.out
 have hle:=Nat.ge_two_pow_of_testBit hvb
 have hd:=za (hI.drop Hrel.out Hnok.out)
 have hsd:=za (zbs Hrel.out)
 rw [HvD.out] at hd hsd
 obtain⟨y,hy⟩:∃ y:Nat,Hid (2 ^ x=y):=⟨_,rfl⟩
 have CY:=za (show ∀ W,Calls Tryd.prog 68 #[.int .i64 x] W fun e w'=>e=.returned (.int .i64 (y:Nat))∧W=w' from fun W=>by rw [← hy.out];exact zah x (by omega) W)
 rw [hy.out] at hd hsd hle
 have hvi:(v:Int)<4294967296:=by have:=hvs.lt;omega
 have hcast:=za (show ((v:Int) - (y:Int))=((v - y:Nat):Int) by omega)
 generalize hw8e:w5=w8
 have hx8:Ext wr w8:=by rw [← hw8e];exact hx5
 exact yV03b1
 ):P:=h
theorem yV03a3 {P:Prop}(h:P:=by
 have hcast:=za (show ((z:Int) - 1)=((z - 1:Nat):Int) by omega)
 go_wp2_with (first
  |(go_at_call 68;refine (CB'.out _).mono ?_;rintro e w' ⟨rfl,rfl⟩)
  |(at_builtin;refine zI w0 wr rfl _ _ _ rfl 3 _ 1 8 Tryd.underlying62 zS rfl (by decide) u7 _ _ _ _ rfl rfl zer zep rfl (zaC _) (by unfold maxLen;omega) (by omega) ?_;intro v' w1 hext1 zet hg1 hat1))
 go_roundw
 case rel=>exact⟨k+1,by omega,by go_num,by rw [hcast.out,show (#[Value.int .i64 ((z - 1:Nat):Int)]:Array Value).toList=[Value.int .i64 ((z - 1:Nat):Int)] from rfl,zbL] at zet;exact zet,by assumption⟩
 case measure=>simp [intOf];omega
 ):P:=h
theorem yV03a4 {P:Prop}(h:P:=by
 obtain rfl:p=k:=by omega
 cases ch
 ·obtain⟨rfl,hpost⟩:=hno rfl
  have Hpost:=za hpost
  clear hpost hno hyes
  go_wp2_with fail
  go_roundw
  case rel=>exact⟨false,S,rfl,zep,hI,zer,fun _ i j hr=>Hpost.out i j (by have:=hr.1;have:=hI.len;omega) hr⟩
  case measure=>rw [zaX zep,hsum.out];simp [boolN]
 ·have h1:=za (hyes rfl)
  clear hno hyes
  go_wp2_with fail
  go_roundw
  case rel=>exact⟨true,S,rfl,zep,hI,zer,fun h=>by cases h⟩
  case measure =>
   rw [zaX zep,hsum.out]
   have:=h1.out
   simp [boolN];omega
 ):P:=h
theorem yV03a6 {P:Prop}(h:P:=by
 have Hb1:=za hb1'
 clear hb1'
 go_wp2_with (go_at_call 33;refine (zA v x hvs _ (by omega)).mono ?_;rw [Hb1.out];rintro e w' ⟨rfl,rfl⟩)
 go_roundw
 case rel=>exact⟨x+1,by omega,by go_num,ch,S,rfl,zep,hI,zer,fun hch=>⟨(hno hch).1,(hno hch).2.1,fun j hj hr=>by
  rcases Nat.lt_or_ge j x with h1|h1
  ·exact (hno hch).2.2 j h1 hr
  ·obtain rfl:j=x:=by omega
   have:=hr.2
   rw [← (hno hch).1,HvD.out,Hb1.out] at this
   cases this⟩,hyes⟩
 case measure=>simp [intOf];omega
 ):P:=h
theorem yV03a7 {P:Prop}(h:P:=by
 obtain rfl:q=x:=by omega
 go_wp2_with fail
 go_roundw
 case rel=>exact⟨k+1,by omega,by go_num,ch,S,rfl,zep,hI,zer,fun hch=>⟨(hno hch).1,fun i j hi hr=>by
  rcases Nat.lt_or_ge i k with h1|h1
  ·exact (hno hch).2.1 i j h1 hr
  ·obtain rfl:i=k:=by omega
   rw [(hno hch).1] at hI
   exact (hno hch).2.2 j (zcI hI hr).2 hr⟩,hyes⟩
 case measure=>simp [intOf];omega
 ):P:=h
theorem zbI {lo hi lo' hi':Nat} {A:Option Addr} {n c:Nat} {B:Option Addr} {m d:Nat} {s t:Sys} {p q:Nat} {w:World}(h:zQ w lo hi A n s)(h':zQ w lo' hi' B m t)
  (hsp:s.st=p) (htq:t.st=q) (hp1:1≤p) (hp:p≤16) (hq:q≤16) (hf:Few p s.edges) (hg:Few q t.edges) :
  Calls Tryd.prog 34 #[.agg #[.int .i64 s.al,.int .i64 s.st,.slice A n c],.agg #[.int .i64 t.al,.int .i64 t.st,.slice B m d],.bool false] w (RetRel w false s t p q):=by
 have HS:=za (fun W (hW:Ext w W)=>h.ext hW)
 have HT:=za (fun W (hW:Ext w W)=>h'.ext hW)
 have Hf:=za hf
 have Hg:=za hg
 clear h h' hf hg
 rw [hsp,htq]
 go_enter Tryd.func34,Tryd.ntmps34
 go_wp2_with fail
 have hext0:=((Ext.refl w).alloc (.cells #[.int .i64 s.al,.int .i64 p,.slice A n c] 39)).alloc (.cells #[.int .i64 t.al,.int .i64 q,.slice B m d] 39)
 have hb1:=Blk.new w 39 #[.int .i64 s.al,.int .i64 p,.slice A n c]
 have hb2:=Blk.new (w.alloc (.cells #[.int .i64 s.al,.int .i64 p,.slice A n c] 39)) 39 #[.int .i64 t.al,.int .i64 q,.slice B m d]
 replace hb1:=hb1.ext ((Ext.refl _).alloc (.cells #[.int .i64 t.al,.int .i64 q,.slice B m d] 39))
 have hsz:w.heap.size+1+1=((w.alloc (.cells #[.int .i64 s.al,.int .i64 p,.slice A n c] 39)).alloc (.cells #[.int .i64 t.al,.int .i64 q,.slice B m d] 39)).heap.size:=by simp
 rw [show (w.alloc (.cells #[.int .i64 s.al,.int .i64 p,.slice A n c] 39)).heap.size=w.heap.size+1 by simp] at hb2
 generalize (w.alloc (.cells #[.int .i64 s.al,.int .i64 p,.slice A n c] 39)).alloc (.cells #[.int .i64 t.al,.int .i64 q,.slice B m d] 39)=w0 at *
 have Hsz:=za hsz
 clear hsz
 obtain⟨z,hz⟩:∃ z:Nat,Hid (2 ^ q=z):=⟨_,rfl⟩
 have hz1:1≤z:=by have:=Nat.two_pow_pos q;have:=hz.out;omega
 have hz2:z≤65536:=by rw [← hz.out,show (65536:Nat)=2 ^ 16 from rfl];exact Nat.pow_le_pow_right (by omega) hq
 have CB:∀ W,Calls Tryd.prog 68 #[.int .i64 q] W fun e w'=>e=.returned (.int .i64 (z:Nat))∧W=w':=fun W=>by rw [← hz.out];exact zah q (by omega) W
 have CB':=za CB
 clear CB
 go_loopw [7,8] (fun v i wr=>∃ k:Nat,k≤p∧i=.int .i64 k∧wr.ownsRow w0.heap.size 3 1 v k (zF (List.replicate k (z - 1)))∧Ext w0 wr) (fun _ i _=>p - (intOf i).toNat)
 case atStart=>exact⟨0,Nat.zero_le _,rfl,by rw [Hsz.out];exact World.ownsRow_lit w0 #[] 0 (Nat.le_refl _) (by unfold maxLen;omega) rfl,(Ext.refl _).alloc _⟩
 case round =>
  obtain⟨k,hk,rfl,zep,zer⟩:=hrel
  have e1:=(hb1.ext zer).cell
  have e2:=(hb2.ext zer).cell
  by_cases hlt:k<p
  ·exact yV03a3
  ·obtain rfl:p=k:=by omega
   obtain⟨g,c2,rfl,hgb⟩:=own_some zep (by omega)
   have hI:=Inv.start false s.edges t.edges p q
   rw [hz.out] at hI
   obtain⟨w2,rfl⟩:∃ w2:World,w2=wr:=⟨_,rfl⟩
   generalize List.replicate p (z - 1)=R0 at zep hI
   have hx02:=zer
   have CF:∀ (W:World) (S:List Nat) (k x:Nat),Ext w0 W→W.ownsRow w0.heap.size 3 1 (.slice (some ⟨g,0,none⟩) p c2) p (zF S)→(∀ r∈S,Sm r)→S.length=p→x<32 →
     Calls Tryd.prog 69 #[.agg #[.int .i64 s.al,.int .i64 p,.slice A n c],.agg #[.int .i64 t.al,.int .i64 q,.slice B m d],.slice (some ⟨g,0,none⟩) p c2,.int .i64 k,.int .i64 x] W fun e w'=>e=.returned (.bool (s.edges.all (folE t.edges S k x)))∧Ext W w':=by
    intro W S k x hW ho hs hl hx
    rw [← hsp,← htq]
    exact zbx (HS.out W (hext0.trans hW)) (HT.out W (hext0.trans hW)) (Reads.of_own ho) hs Hf.out Hg.out hp hq hx (by omega)
   have CK:∀ (W:World) (S:List Nat) (k x:Nat),Ext w0 W→W.ownsRow w0.heap.size 3 1 (.slice (some ⟨g,0,none⟩) p c2) p (zF S)→(∀ r∈S,Sm r)→S.length=p→k<32 →
     Calls Tryd.prog 70 #[.agg #[.int .i64 s.al,.int .i64 p,.slice A n c],.agg #[.int .i64 t.al,.int .i64 q,.slice B m d],.slice (some ⟨g,0,none⟩) p c2,.int .i64 k,.int .i64 x] W fun e w'=>e=.returned (.bool (t.edges.all (bakE p s.edges S k x)))∧Ext W w':=by
    intro W S k x hW ho hs hl hk
    rw [← hsp,← htq]
    exact zco (HS.out W (hext0.trans hW)) (HT.out W (hext0.trans hW)) (Reads.of_own ho) hs hsp Hf.out Hg.out hp hq hk hl
   have CF':=za CF
   have CK':=za CK
   clear CF CK hlt hk
   go_wp2_with fail
   clear e1 e2
   go_loopw [9] (fun v wr=>∃ (b:Bool) (R:List Nat),v=.bool b∧wr.ownsRow w0.heap.size 3 1 (.slice (some ⟨g,0,none⟩) p c2) p (zF R)∧Inv false s.edges t.edges p q R∧Ext w0 wr∧Hid (b=false→∀ i j,rel R i j→Ok false s.edges t.edges (rel R) i j)) (fun v wr=>boolN v+2*sumAt wr g p)
   case atStart=>exact⟨true,R0,rfl,zep,hI,zer,fun h=>by cases h⟩
   case round =>
    clear zep hI zer
    obtain⟨b,R,rfl,zep,hI,zer,zes⟩:=hrel
    have hsum:=za (zaX zep)
    cases b
    ·have Hfin:=za (zes rfl)
     clear zes
     go_wp2_with fail
     go_ret
     exact⟨g,c2,R,rfl,zT zep hext0.size,⟨hI,Hfin.out⟩,hext0.trans zer⟩
    ·clear zes
     go_wp2_with fail
     go_loopw [9,10] (fun v i wr=>∃ k:Nat,k≤p∧i=.int .i64 k∧∃ (ch:Bool) (S:List Nat),v=.bool ch∧wr.ownsRow w0.heap.size 3 1 (.slice (some ⟨g,0,none⟩) p c2) p (zF S)∧Inv false s.edges t.edges p q S∧Ext w0 wr
      ∧ Hid (ch=false→S=R∧∀ i j,i<k→rel R i j→Ok false s.edges t.edges (rel R) i j)∧Hid (ch=true→S.sum<R.sum)) (fun _ i _=>p - (intOf i).toNat)
     case atStart=>exact⟨0,Nat.zero_le _,rfl,false,R,rfl,zep,hI,zer,fun _=>⟨rfl,fun i j hi=>by omega⟩,fun h=>by cases h⟩
     case round =>
      clear zep hI zer
      obtain⟨k,hk,rfl,ch,S,rfl,zep,hI,zer,hno,hyes⟩:=hrel
      have e1:=(hb1.ext zer).cell
      by_cases hlt:k<p
      ·go_wp2_with fail
       clear e1
       go_loopw [9,11] (fun v i wr=>∃ x:Nat,x≤q∧i=.int .i64 x∧∃ (ch:Bool) (S:List Nat),v=.bool ch∧wr.ownsRow w0.heap.size 3 1 (.slice (some ⟨g,0,none⟩) p c2) p (zF S)∧Inv false s.edges t.edges p q S∧Ext w0 wr
        ∧ Hid (ch=false→S=R∧(∀ i j,i<k→rel R i j→Ok false s.edges t.edges (rel R) i j)∧∀ j,j<x→rel R k j→Ok false s.edges t.edges (rel R) k j)∧Hid (ch=true→S.sum<R.sum)) (fun _ i _=>q - (intOf i).toNat)
       case atStart=>exact⟨0,Nat.zero_le _,rfl,ch,S,rfl,zep,hI,zer,fun h=>⟨(hno h).1,(hno h).2,fun j hj=>by omega⟩,hyes⟩
       case round =>
        clear zep hI zer hno hyes
        obtain⟨x,hxq,rfl,ch,S,rfl,zep,hI,zer,hno,hyes⟩:=hrel
        have e2:=(hb2.ext zer).cell
        by_cases hlx:x<q
        ·have hSl:S.length=p:=hI.len
         have hSm:∀ r∈S,Sm r:=fun r hr=>Nat.lt_of_lt_of_le (hI.small r hr) (by rw [show (4294967296:Nat)=2 ^ 32 from rfl];exact Nat.pow_le_pow_right (by omega) (by omega))
         obtain⟨v,hv⟩:∃ v,S[k]?=some v:=⟨_,List.getElem?_eq_getElem (by omega)⟩
         have hvD:S.getD k 0=v:=by rw [List.getD_eq_getElem?_getD,hv];rfl
         have hvs:=hSm v (List.mem_of_getElem? hv)
         have hc0:wr.cell? ⟨g,k,none⟩=some (.int .i64 (v:Nat)):=by rw [zep.cellAt k (by omega)];simp [zF,hv]
         have Hv:=za hv
         have HvD:=za hvD
         have HSm:=za hSm
         have HSl:=za hSl
         clear hv hvD hSm hSl
         have e1:=(hb1.ext zer).cell
         cases hb1':v.testBit x
         ·exact yV03a6
         ·have Hb1:=za hb1'
          have Hrel:=za (show rel S k x from ⟨by have:=HSl.out;omega,by rw [HvD.out];exact hb1'⟩)
          clear hb1'
          have hCF:=za (CF'.out wr S k x zer zep HSm.out HSl.out (by omega))
          cases hfo:s.edges.all (folE t.edges S k x)
          ·have Hfo:=za hfo
           clear hfo
           have Hnok:=za (show ¬ Ok false s.edges t.edges (rel S) k x from fun h=>by have:=(ok_false Hf.out Hg.out).1 h;rw [Hfo.out] at this;simp at this)
           exact yV03a1
          ·have Hfo:=za hfo
           clear hfo
           have Hok:=za ((ok_false Hf.out Hg.out).2 Hfo.out)
           go_wp2_with (first|(go_at_call 33;refine (zA v x hvs _ (by omega)).mono ?_;rw [Hb1.out];rintro e w' ⟨rfl,rfl⟩)|(go_at_call 69;with_reducible refine (hCF.out).mono ?_;rw [Hfo.out];rintro e w5 ⟨rfl,hx5⟩))
           go_roundw
           case rel=>exact⟨x+1,by omega,by go_num,ch,S,rfl,zm zep hx5,hI,zer.trans hx5,fun hch=>⟨(hno hch).1,(hno hch).2.1,fun j hj hr=>by
            rcases Nat.lt_or_ge j x with h1|h1
            ·exact (hno hch).2.2 j h1 hr
            ·obtain rfl:j=x:=by omega
             have:=Hok.out
             rw [(hno hch).1] at this
             exact this⟩,hyes⟩
           case measure=>simp [intOf];omega
        ·exact yV03a7
      ·exact yV03a4
theorem zbS {lo hi lo' hi':Nat} {A:Option Addr} {n c:Nat} {B:Option Addr} {m d:Nat} {s t:Sys} {p q:Nat} {w:World}(h:zQ w lo hi A n s)(h':zQ w lo' hi' B m t)
  (hsp:s.st=p) (htq:t.st=q) (hp1:1≤p) (hp:p≤16) (hq:q≤16) (hf:Few p s.edges) (hg:Few q t.edges) :
  Calls Tryd.prog 34 #[.agg #[.int .i64 s.al,.int .i64 s.st,.slice A n c],.agg #[.int .i64 t.al,.int .i64 t.st,.slice B m d],.bool true] w (RetRel w true s t p q):=by
 have HS:=za (fun W (hW:Ext w W)=>h.ext hW)
 have HT:=za (fun W (hW:Ext w W)=>h'.ext hW)
 have Hf:=za hf
 have Hg:=za hg
 clear h h' hf hg
 rw [hsp,htq]
 go_enter Tryd.func34,Tryd.ntmps34
 go_wp2_with fail
 have hext0:=((Ext.refl w).alloc (.cells #[.int .i64 s.al,.int .i64 p,.slice A n c] 39)).alloc (.cells #[.int .i64 t.al,.int .i64 q,.slice B m d] 39)
 have hb1:=Blk.new w 39 #[.int .i64 s.al,.int .i64 p,.slice A n c]
 have hb2:=Blk.new (w.alloc (.cells #[.int .i64 s.al,.int .i64 p,.slice A n c] 39)) 39 #[.int .i64 t.al,.int .i64 q,.slice B m d]
 replace hb1:=hb1.ext ((Ext.refl _).alloc (.cells #[.int .i64 t.al,.int .i64 q,.slice B m d] 39))
 have hsz:w.heap.size+1+1=((w.alloc (.cells #[.int .i64 s.al,.int .i64 p,.slice A n c] 39)).alloc (.cells #[.int .i64 t.al,.int .i64 q,.slice B m d] 39)).heap.size:=by simp
 rw [show (w.alloc (.cells #[.int .i64 s.al,.int .i64 p,.slice A n c] 39)).heap.size=w.heap.size+1 by simp] at hb2
 generalize (w.alloc (.cells #[.int .i64 s.al,.int .i64 p,.slice A n c] 39)).alloc (.cells #[.int .i64 t.al,.int .i64 q,.slice B m d] 39)=w0 at *
 have Hsz:=za hsz
 clear hsz
 obtain⟨z,hz⟩:∃ z:Nat,Hid (2 ^ q=z):=⟨_,rfl⟩
 have hz1:1≤z:=by have:=Nat.two_pow_pos q;have:=hz.out;omega
 have hz2:z≤65536:=by rw [← hz.out,show (65536:Nat)=2 ^ 16 from rfl];exact Nat.pow_le_pow_right (by omega) hq
 have CB:∀ W,Calls Tryd.prog 68 #[.int .i64 q] W fun e w'=>e=.returned (.int .i64 (z:Nat))∧W=w':=fun W=>by rw [← hz.out];exact zah q (by omega) W
 have CB':=za CB
 clear CB
 go_loopw [7,8] (fun v i wr=>∃ k:Nat,k≤p∧i=.int .i64 k∧wr.ownsRow w0.heap.size 3 1 v k (zF (List.replicate k (z - 1)))∧Ext w0 wr) (fun _ i _=>p - (intOf i).toNat)
 case atStart=>exact⟨0,Nat.zero_le _,rfl,by rw [Hsz.out];exact World.ownsRow_lit w0 #[] 0 (Nat.le_refl _) (by unfold maxLen;omega) rfl,(Ext.refl _).alloc _⟩
 case round =>
  obtain⟨k,hk,rfl,zep,zer⟩:=hrel
  have e1:=(hb1.ext zer).cell
  have e2:=(hb2.ext zer).cell
  by_cases hlt:k<p
  ·exact yV03a3
  ·obtain rfl:p=k:=by omega
   obtain⟨g,c2,rfl,hgb⟩:=own_some zep (by omega)
   have hI:=Inv.start true s.edges t.edges p q
   rw [hz.out] at hI
   obtain⟨w2,rfl⟩:∃ w2:World,w2=wr:=⟨_,rfl⟩
   generalize List.replicate p (z - 1)=R0 at zep hI
   have hx02:=zer
   have CF:∀ (W:World) (S:List Nat) (k x:Nat),Ext w0 W→W.ownsRow w0.heap.size 3 1 (.slice (some ⟨g,0,none⟩) p c2) p (zF S)→(∀ r∈S,Sm r)→S.length=p→x<32 →
     Calls Tryd.prog 69 #[.agg #[.int .i64 s.al,.int .i64 p,.slice A n c],.agg #[.int .i64 t.al,.int .i64 q,.slice B m d],.slice (some ⟨g,0,none⟩) p c2,.int .i64 k,.int .i64 x] W fun e w'=>e=.returned (.bool (s.edges.all (folE t.edges S k x)))∧Ext W w':=by
    intro W S k x hW ho hs hl hx
    rw [← hsp,← htq]
    exact zbx (HS.out W (hext0.trans hW)) (HT.out W (hext0.trans hW)) (Reads.of_own ho) hs Hf.out Hg.out hp hq hx (by omega)
   have CK:∀ (W:World) (S:List Nat) (k x:Nat),Ext w0 W→W.ownsRow w0.heap.size 3 1 (.slice (some ⟨g,0,none⟩) p c2) p (zF S)→(∀ r∈S,Sm r)→S.length=p→k<32 →
     Calls Tryd.prog 70 #[.agg #[.int .i64 s.al,.int .i64 p,.slice A n c],.agg #[.int .i64 t.al,.int .i64 q,.slice B m d],.slice (some ⟨g,0,none⟩) p c2,.int .i64 k,.int .i64 x] W fun e w'=>e=.returned (.bool (t.edges.all (bakE p s.edges S k x)))∧Ext W w':=by
    intro W S k x hW ho hs hl hk
    rw [← hsp,← htq]
    exact zco (HS.out W (hext0.trans hW)) (HT.out W (hext0.trans hW)) (Reads.of_own ho) hs hsp Hf.out Hg.out hp hq hk hl
   have CF':=za CF
   have CK':=za CK
   clear CF CK hlt hk
   go_wp2_with fail
   clear e1 e2
   go_loopw [9] (fun v wr=>∃ (b:Bool) (R:List Nat),v=.bool b∧wr.ownsRow w0.heap.size 3 1 (.slice (some ⟨g,0,none⟩) p c2) p (zF R)∧Inv true s.edges t.edges p q R∧Ext w0 wr∧Hid (b=false→∀ i j,rel R i j→Ok true s.edges t.edges (rel R) i j)) (fun v wr=>boolN v+2*sumAt wr g p)
   case atStart=>exact⟨true,R0,rfl,zep,hI,zer,fun h=>by cases h⟩
   case round =>
    clear zep hI zer
    obtain⟨b,R,rfl,zep,hI,zer,zes⟩:=hrel
    have hsum:=za (zaX zep)
    cases b
    ·have Hfin:=za (zes rfl)
     clear zes
     go_wp2_with fail
     go_ret
     exact⟨g,c2,R,rfl,zT zep hext0.size,⟨hI,Hfin.out⟩,hext0.trans zer⟩
    ·clear zes
     go_wp2_with fail
     go_loopw [9,10] (fun v i wr=>∃ k:Nat,k≤p∧i=.int .i64 k∧∃ (ch:Bool) (S:List Nat),v=.bool ch∧wr.ownsRow w0.heap.size 3 1 (.slice (some ⟨g,0,none⟩) p c2) p (zF S)∧Inv true s.edges t.edges p q S∧Ext w0 wr
      ∧ Hid (ch=false→S=R∧∀ i j,i<k→rel R i j→Ok true s.edges t.edges (rel R) i j)∧Hid (ch=true→S.sum<R.sum)) (fun _ i _=>p - (intOf i).toNat)
     case atStart=>exact⟨0,Nat.zero_le _,rfl,false,R,rfl,zep,hI,zer,fun _=>⟨rfl,fun i j hi=>by omega⟩,fun h=>by cases h⟩
     case round =>
      clear zep hI zer
      obtain⟨k,hk,rfl,ch,S,rfl,zep,hI,zer,hno,hyes⟩:=hrel
      have e1:=(hb1.ext zer).cell
      by_cases hlt:k<p
      ·go_wp2_with fail
       clear e1
       go_loopw [9,11] (fun v i wr=>∃ x:Nat,x≤q∧i=.int .i64 x∧∃ (ch:Bool) (S:List Nat),v=.bool ch∧wr.ownsRow w0.heap.size 3 1 (.slice (some ⟨g,0,none⟩) p c2) p (zF S)∧Inv true s.edges t.edges p q S∧Ext w0 wr
        ∧ Hid (ch=false→S=R∧(∀ i j,i<k→rel R i j→Ok true s.edges t.edges (rel R) i j)∧∀ j,j<x→rel R k j→Ok true s.edges t.edges (rel R) k j)∧Hid (ch=true→S.sum<R.sum)) (fun _ i _=>q - (intOf i).toNat)
       case atStart=>exact⟨0,Nat.zero_le _,rfl,ch,S,rfl,zep,hI,zer,fun h=>⟨(hno h).1,(hno h).2,fun j hj=>by omega⟩,hyes⟩
       case round =>
        clear zep hI zer hno hyes
        obtain⟨x,hxq,rfl,ch,S,rfl,zep,hI,zer,hno,hyes⟩:=hrel
        have e2:=(hb2.ext zer).cell
        by_cases hlx:x<q
        ·have hSl:S.length=p:=hI.len
         have hSm:∀ r∈S,Sm r:=fun r hr=>Nat.lt_of_lt_of_le (hI.small r hr) (by rw [show (4294967296:Nat)=2 ^ 32 from rfl];exact Nat.pow_le_pow_right (by omega) (by omega))
         obtain⟨v,hv⟩:∃ v,S[k]?=some v:=⟨_,List.getElem?_eq_getElem (by omega)⟩
         have hvD:S.getD k 0=v:=by rw [List.getD_eq_getElem?_getD,hv];rfl
         have hvs:=hSm v (List.mem_of_getElem? hv)
         have hc0:wr.cell? ⟨g,k,none⟩=some (.int .i64 (v:Nat)):=by rw [zep.cellAt k (by omega)];simp [zF,hv]
         have Hv:=za hv
         have HvD:=za hvD
         have HSm:=za hSm
         have HSl:=za hSl
         clear hv hvD hSm hSl
         have e1:=(hb1.ext zer).cell
         cases hb1':v.testBit x
         ·exact yV03a6
         ·have Hb1:=za hb1'
          have Hrel:=za (show rel S k x from ⟨by have:=HSl.out;omega,by rw [HvD.out];exact hb1'⟩)
          clear hb1'
          have hCF:=za (CF'.out wr S k x zer zep HSm.out HSl.out (by omega))
          cases hfo:s.edges.all (folE t.edges S k x)
          ·have Hfo:=za hfo
           clear hfo
           have Hnok:=za (show ¬ Ok true s.edges t.edges (rel S) k x from fun h=>by have:=(ok_true Hf.out Hg.out).1 h;rw [Hfo.out] at this;simp at this)
           exact yV03a1
          ·have Hfo:=za hfo
           clear hfo
           cases hbk:t.edges.all (bakE p s.edges S k x)
           ·have Hbk:=za hbk
            clear hbk
            have Hnok:=za (show ¬ Ok true s.edges t.edges (rel S) k x from fun h=>by have:=(ok_true Hf.out Hg.out).1 h;rw [Hbk.out] at this;simp at this)
            go_wp2_with (first|(go_at_call 33;refine (zA v x hvs _ (by omega)).mono ?_;rw [Hb1.out];rintro e w' ⟨rfl,rfl⟩)|(go_at_call 69;with_reducible refine (hCF.out).mono ?_;rw [Hfo.out];rintro e w5 ⟨rfl,hx5⟩;have e15:=(hb1.ext (zer.trans hx5)).cell;have e25:=(hb2.ext (zer.trans hx5)).cell)|(go_at_call 70;refine (CK'.out _ S k x (zer.trans hx5) (zm zep hx5) HSm.out HSl.out (by omega)).mono ?_;rw [Hbk.out];rintro e w6 ⟨rfl,hx6⟩))
            clear e15 e25
            have hvb:v.testBit x=true:=Hb1.out
            have hle:=Nat.ge_two_pow_of_testBit hvb
            have hd:=za (hI.drop Hrel.out Hnok.out)
            have hsd:=za (zbs Hrel.out)
            rw [HvD.out] at hd hsd
            obtain⟨y,hy⟩:∃ y:Nat,Hid (2 ^ x=y):=⟨_,rfl⟩
            have CY:=za (show ∀ W,Calls Tryd.prog 68 #[.int .i64 x] W fun e w'=>e=.returned (.int .i64 (y:Nat))∧W=w' from fun W=>by rw [← hy.out];exact zah x (by omega) W)
            rw [hy.out] at hd hsd hle
            have hvi:(v:Int)<4294967296:=by have:=hvs.lt;omega
            have hcast:=za (show ((v:Int) - (y:Int))=((v - y:Nat):Int) by omega)
            generalize hw8e:w6=w8
            have hx8:Ext wr w8:=by rw [← hw8e];exact (hx5.trans hx6)
            exact yV03b1
           ·have Hbk:=za hbk
            clear hbk
            have Hok:=za ((ok_true Hf.out Hg.out).2 ⟨Hfo.out,Hbk.out⟩)
            go_wp2_with (first|(go_at_call 33;refine (zA v x hvs _ (by omega)).mono ?_;rw [Hb1.out];rintro e w' ⟨rfl,rfl⟩)|(go_at_call 69;with_reducible refine (hCF.out).mono ?_;rw [Hfo.out];rintro e w5 ⟨rfl,hx5⟩;have e15:=(hb1.ext (zer.trans hx5)).cell;have e25:=(hb2.ext (zer.trans hx5)).cell)|(go_at_call 70;refine (CK'.out _ S k x (zer.trans hx5) (zm zep hx5) HSm.out HSl.out (by omega)).mono ?_;rw [Hbk.out];rintro e w6 ⟨rfl,hx6⟩))
            go_roundw
            case rel=>exact⟨x+1,by omega,by go_num,ch,S,rfl,zm zep (hx5.trans hx6),hI,zer.trans (hx5.trans hx6),fun hch=>⟨(hno hch).1,(hno hch).2.1,fun j hj hr=>by
             rcases Nat.lt_or_ge j x with h1|h1
             ·exact (hno hch).2.2 j h1 hr
             ·obtain rfl:j=x:=by omega
              have:=Hok.out
              rw [(hno hch).1] at this
              exact this⟩,hyes⟩
            case measure=>simp [intOf];omega
        ·exact yV03a7
      ·exact yV03a4
theorem zdE {both:Bool} {lo hi lo' hi':Nat} {A:Option Addr} {n c:Nat} {B:Option Addr} {m d:Nat} {s t:Sys} {p q:Nat} {w:World}(h:zQ w lo hi A n s)(h':zQ w lo' hi' B m t)
  (hsp:s.st=p) (htq:t.st=q) (hp1:1≤p) (hp:p≤16) (hq:q≤16) (hf:Few p s.edges) (hg:Few q t.edges) :
  Calls Tryd.prog 34 #[.agg #[.int .i64 s.al,.int .i64 s.st,.slice A n c],.agg #[.int .i64 t.al,.int .i64 t.st,.slice B m d],.bool both] w (RetRel w both s t p q):=by
 cases both
 ·exact zbI h h' hsp htq hp1 hp hq hf hg
 ·exact zbS h h' hsp htq hp1 hp hq hf hg
def zdX (x y:Int):Int:=if x<y then -1 else if y<x then 1 else 0
theorem cmp_isNaN (x:Int) (w:World):Calls Tryd.prog 138 #[.int .i64 x] w fun e w'=>e=.returned (.bool false)∧w=w':=by
 have h:(x != x)=false:=by simp
 go_enter Tryd.func138,Tryd.ntmps138
 go_wp2
 go_ret
 exact⟨zf (by simp),rfl⟩
theorem cmp_Compare (x y:Int) (w:World):Calls Tryd.prog 120 #[.int .i64 x,.int .i64 y] w fun e w'=>e=.returned (.int .i64 (zdX x y))∧w=w':=by
 by_cases h:x<y
 ·go_enter Tryd.func120,Tryd.ntmps120
  go_wp2_with (go_at_call 138;refine (cmp_isNaN _ _).mono ?_;rintro e w' ⟨rfl,rfl⟩)
  go_ret
  exact⟨zaO (by unfold zdX;split<;>omega),rfl⟩
 ·by_cases h':y<x
  all_goals
   go_enter Tryd.func120,Tryd.ntmps120
   go_wp2_with (go_at_call 138;refine (cmp_isNaN _ _).mono ?_;rintro e w' ⟨rfl,rfl⟩)
   go_ret
   exact⟨zaO (by unfold zdX;(repeat' split)<;>omega),rfl⟩
def orI:List Int→Int
 |[]=>0
 |x :: r=>if x=0 then orI r else x
theorem orI_stop {l:List Int} {k:Nat} {x:Int}(h:l[k]?=some x)(hk:∀ y∈l.take k,y=0)(hx:x≠0):orI l=x:=by
 induction l generalizing k with
 |nil=>simp at h
 |cons a r ih =>
  cases k with
  |zero=>simp at h;subst h;rw [orI,if_neg hx]
  |succ k =>
   have ha:a=0:=hk a (by simp)
   rw [orI,if_pos ha]
   exact ih (by simpa using h) (fun y hy=>hk y (by simp [hy]))
theorem orI_end {l:List Int}(hk:∀ y∈l,y=0):orI l=0:=by
 induction l with
 |nil=>rfl
 |cons a r ih=>rw [orI,if_pos (hk a (by simp)),ih fun y hy=>hk y (by simp [hy])]
theorem cmp_Or {lo hi:Nat} {A:Option Addr} {n c:Nat} {l:List Int} {w:World}(h:Reads w lo hi 1 A n (ints l)) :
  Calls Tryd.prog 119 #[.slice A n c] w fun e w'=>e=.returned (.int .i64 (orI l))∧w=w':=by
 have hn:=h.len
 have Hl:=za (show l.length=n by have:=h.length;rw [zde] at this;omega)
 go_enter Tryd.func119,Tryd.ntmps119
 go_wp2
 go_loop [8] (fun i=>∃ k:Nat,k≤n∧i=.int .i64 k∧Hid (∀ y∈l.take k,y=0)) (fun i=>n - (intOf i).toNat)
 case atStart=>exact⟨0,Nat.zero_le _,rfl,za (by simp)⟩
 case round =>
  obtain⟨k,hk,rfl,hz⟩:=hrel
  by_cases hlt:k<n
  ·obtain⟨ad,x,rfl,_,_,hx,hc⟩:=h.int hlt
   by_cases h0:x=0
   ·have hb:((x:Int) != 0)=false:=by simp [h0]
    have H0:=za h0
    clear h0
    go_wp2
    go_round
    case rel=>exact⟨k+1,by omega,by go_num,za (by rw [List.take_add_one,hx.out];intro y hy;simp at hy;rcases hy with hy|hy;exact hz.out y hy;rw [hy,H0.out])⟩
    case measure=>simp [intOf];omega
   ·have hb:((x:Int) != 0)=true:=by simp [h0]
    go_wp2
    go_ret
    exact⟨zaO (orI_stop hx.out hz.out h0).symm,rfl⟩
  ·obtain rfl:k=n:=by omega
   go_wp2
   go_ret
   have:=hz.out
   rw [List.take_of_length_le (by have:=Hl.out;omega)] at this
   exact⟨zaO (orI_end this).symm,rfl⟩
def cmpE (a b:Edg):Int:=orI [zdX a.fr b.fr,zdX a.le b.le,zdX a.ta b.ta]
def ltE (a b:Edg):Bool:=if a.fr=b.fr then if a.le=b.le then decide (a.ta<b.ta) else decide (a.le<b.le) else decide (a.fr<b.fr)
theorem cmpE_lt (a b:Edg):cmpE a b<0↔ltE a b=true:=by
 have hc:∀ x y:Int,(zdX x y=0↔x=y)∧(zdX x y<0↔x<y):=fun x y=>by unfold zdX;constructor<;>(repeat' split)<;>omega
 have h1:=hc a.fr b.fr
 have h2:=hc a.le b.le
 have h3:=hc a.ta b.ta
 have hv:cmpE a b=if zdX a.fr b.fr=0 then if zdX a.le b.le=0 then if zdX a.ta b.ta=0 then 0 else zdX a.ta b.ta else zdX a.le b.le else zdX a.fr b.fr:=rfl
 rw [hv,ltE]
 by_cases e1:a.fr=b.fr
 ·rw [if_pos (h1.1.2 e1),if_pos e1]
  by_cases e2:a.le=b.le
  ·rw [if_pos (h2.1.2 e2),if_pos e2]
   by_cases e3:zdX a.ta b.ta=0
   ·rw [if_pos e3];have:=h3.1.1 e3;simp;omega
   ·rw [if_neg e3,h3.2];simp
  ·rw [if_neg (fun h=>e2 (h2.1.1 h)),if_neg e2,h2.2];simp
 ·rw [if_neg (fun h=>e1 (h1.1.1 h)),if_neg e1,h1.2];simp
theorem reads_lit {w w':World} {cs:Array Value} {t:TypeId} (n:Nat) (l:List Int)(hc:cs.toList=ints l)(hl:l.length=n)(hn:n≤1000)(h:Ext (w.alloc (.cells cs t)) w'):Reads w' 0 w'.heap.size 1 (some ⟨w.heap.size,0,none⟩) n (ints l):=by
 have hb:=zaH h
 refine⟨by rw [zde];omega,by omega,fun _=>⟨_,rfl,Nat.zero_le _,hb.lt,fun j u hu=>?_⟩⟩
 rw [zP,Nat.zero_add,hb.cell,← Array.getElem?_toList,hc]
 exact hu
theorem zba {a b:Edg} {w:World} :
  Calls Tryd.prog 104 #[.agg #[.int .i64 a.fr,.int .i64 a.le,.int .i64 a.ta],.agg #[.int .i64 b.fr,.int .i64 b.le,.int .i64 b.ta]] w fun e w'=>e=.returned (.int .i64 (cmpE a b))∧Ext w w':=by
 go_enter Tryd.func104,Tryd.ntmps104
 go_wp2_with fail
 obtain⟨W,hW⟩:∃ W:World,W=(w.alloc (.cells #[Value.int .i64 a.fr,.int .i64 a.le,.int .i64 a.ta] 116)).alloc (.cells #[Value.int .i64 b.fr,.int .i64 b.le,.int .i64 b.ta] 116):=⟨_,rfl⟩
 have hx:Ext w W:=by rw [hW];exact ((Ext.refl _).alloc _).alloc _
 have h2:=zv (show Ext ((w.alloc (.cells #[Value.int .i64 a.fr,.int .i64 a.le,.int .i64 a.ta] 116)).alloc (.cells #[Value.int .i64 b.fr,.int .i64 b.le,.int .i64 b.ta] 116)) W by rw [hW];exact Ext.refl _)
 have e0:∀ X,Ext W X→∀ j,X.cell? ⟨w.heap.size,j,none⟩=#[Value.int .i64 a.fr,.int .i64 a.le,.int .i64 a.ta][j]?:=fun X hX=>(h2.1.ext hX).cell
 have e1:∀ X,Ext W X→∀ j,X.cell? ⟨w.heap.size+1,j,none⟩=#[Value.int .i64 b.fr,.int .i64 b.le,.int .i64 b.ta][j]?:=fun X hX=>(h2.2.ext hX).cell
 rw [← hW]
 have hr:=Ext.refl W
 clear hW h2
 go_region_held3 (fun X=>Ext W X) (first|assumption|(refine Ext.drew ?_;assumption)|(refine Ext.alloc ?_ _;assumption)|(refine Ext.drew ?_;refine Ext.alloc ?_ _;assumption)|(refine Ext.trans ?_ (by assumption);assumption)) (first|(go_at_call 120;refine (cmp_Compare _ _ _).mono ?_;rintro e w' ⟨rfl,rfl⟩)|(go_at_call 119;refine (cmp_Or (reads_lit 3 [zdX a.fr b.fr,zdX a.le b.le,zdX a.ta b.ta] rfl rfl (by omega) ((Ext.refl _).drew))).mono ?_;rintro e w' ⟨rfl,rfl⟩))
 all_goals (go_wp2_with fail;go_ret;exact⟨rfl,hx.trans (by first|assumption|(refine Ext.drew ?_;assumption)|(refine Ext.alloc ?_ _;assumption)|(refine Ext.drew ?_;refine Ext.alloc ?_ _;assumption))⟩)
theorem zD {al st:Int} {A:Option Addr} {n c:Nat} {q:Int} {w:World} :
  Calls Tryd.prog 103 #[.agg #[.int .i64 al,.int .i64 st,.slice A n c],.int .i64 q] w fun e w'=>e=.returned (.bool (decide (0≤q)&&decide (q<st)))∧Ext w w':=by
 by_cases h0:0≤q
 all_goals
  go_enter Tryd.func103,Tryd.ntmps103
  go_wp2
  go_ret
  exact⟨zf (by simp;try omega),(Ext.refl _).alloc _⟩
def edgB (al:Nat) (st:Int) (e:Edg):Bool:=(decide (0≤e.fr)&&decide (e.fr<st))&&((decide (0≤e.ta)&&decide (e.ta<st))&&(decide (e.le<6)&&hasB al e.le))
def zaz (al:Nat) (st:Int) (l:List Edg) (k:Nat):Bool:=
 match l[k]? with
 |some e=>edgB al st e&&(decide (k=0) || match l[k - 1]? with
  |some p=>ltE p e
  |none=>false)
 |none=>false
def zk (s:Sys):Bool:=
 decide (0≤s.al∧s.al≤63)&&(decide (1≤s.st∧s.st≤16)&&(List.range s.edges.length).all (zaz s.al.toNat s.st s.edges))
theorem zR {lo hi:Nat} {A:Option Addr} {n c:Nat} {s:Sys} {w:World}(h:zQ w lo hi A n s) :
  Calls Tryd.prog 64 #[.agg #[.int .i64 s.al,.int .i64 s.st,.slice A n c]] w fun e w'=>e=.returned (.bool (zk s))∧Ext w w':=by
 have Hv:=za (show zk s=(decide (0≤s.al∧s.al≤63)&&(decide (1≤s.st∧s.st≤16)&&(List.range n).all (zaz s.al.toNat s.st s.edges))) by unfold zk;rw [← h.1])
 have hn:=h.2.len
 by_cases hal:0≤s.al∧s.al≤63
 ·by_cases hst:1≤s.st∧s.st≤16
  ·obtain⟨al,hal'⟩:∃ al:Nat,Hid (s.al=al):=⟨s.al.toNat,by unfold Hid;omega⟩
   have hsm:Sm al:=by have:=hal'.out;unfold Sm;omega
   have hd:=za (show decide (0≤(al:Int)∧(al:Int)≤63)=true by have:=hal'.out;simp;omega)
   rw [hal'.out]
   rw [hal'.out,Int.toNat_natCast] at Hv
   clear hal
   have hd1:decide (s.st<1)=false:=by simp;omega
   have hd2:decide (16<s.st)=false:=by simp;omega
   obtain⟨st,hst',hs1,hs2⟩:∃ st:Int,Hid (s.st=st)∧1≤st∧st≤16:=⟨s.st,za rfl,hst.1,hst.2⟩
   rw [hst'.out] at hd1 hd2 Hv ⊢
   clear hst
   have hR:=fun W (hW:Ext w W)=>h.2.ext hW
   have HR:=za hR
   clear hR
   go_enter Tryd.func64,Tryd.ntmps64
   go_wp2_with (go_at_call 80;refine (zM _ _).mono ?_;rw [hd.out];rintro e w' ⟨rfl,rfl⟩)
   go_loopw [22] (fun i wr=>∃ k:Nat,k≤n∧i=.int .i64 k∧Hid (((List.range n).take k).all (zaz al st s.edges)=true)∧Ext (w.alloc (.cells #[Value.int .i64 al,.int .i64 st,Value.slice A n c] 39)) wr)
    (fun i _=>n - (intOf i).toNat)
   case atStart=>exact⟨0,Nat.zero_le _,rfl,rfl,Ext.refl _⟩
   case round =>
    obtain⟨k,hk,rfl,hall,zer⟩:=hrel
    by_cases hlt:k<n
    ·obtain⟨b,o,e,rfl,hlo,hhi,he,c0,c1,c2⟩:=(HR.out wr (((Ext.refl _).alloc _).trans zer)).edge hlt
     have hbx:=zbN zer
     go_wp2_with fail
     obtain⟨W,hW⟩:∃ W:World,W=wr.alloc (.cells #[Value.int .i64 e.fr,.int .i64 e.le,.int .i64 e.ta] 116):=⟨_,rfl⟩
     have hx:Ext wr W:=by rw [hW];exact (Ext.refl _).alloc _
     have h1:=zaH (show Ext (wr.alloc (.cells #[Value.int .i64 e.fr,.int .i64 e.le,.int .i64 e.ta] 116)) W by rw [hW];exact Ext.refl _)
     have e0:∀ X,Ext W X→∀ j,X.cell? ⟨w.heap.size,j,none⟩=#[Value.int .i64 al,.int .i64 st,Value.slice (some ⟨b,o,none⟩) n c][j]?:=fun X hX=>zbN ((zer.trans hx).trans hX)
     have e1:∀ X,Ext W X→∀ j,X.cell? ⟨wr.heap.size,j,none⟩=#[Value.int .i64 e.fr,.int .i64 e.le,.int .i64 e.ta][j]?:=fun X hX=>(h1.ext hX).cell
     rw [← hW]
     have hr:=Ext.refl W
     clear hW h1 hbx c0 c1 c2
     have zes:∀ X,Ext W X→Ext w X:=fun X hX=>((((Ext.refl _).alloc _).trans zer).trans hx).trans hX
     have Hfin:=za zes
     clear zes
     have hge:(List.range n)[k]?=some k:=by rw [List.getElem?_range hlt]
     have Hge:=za hge
     clear hge
     cases hA:(decide (0≤e.fr)&&decide (e.fr<st))
     ·have HA:=za hA
      clear hA
      have hA:=HA;clear HA
      refine zC (fun X=>Ext W X) [0,1,2,3,4,5,6,7,8,9,10,11,12,13,14,15,16,17,18,19,20,21,22,23,24,25,26,27,28,29,30,31,32,33,34,35,36,37,38,39] (by kernel_rfl) rfl (by kernel_rfl) (by kernel_rfl) (fun _ _ _ _ _ h=>h) ((Ext.refl _).drew) (fun hS=>?_)
      refine sQ ?_
      refine zt (fun K hK=>?_)
      go_simp
      refine (zD).mono ?_
      rw [hA.out];rintro r w2 ⟨rfl,hx2⟩
      refine hK.out _ _ (Ext.trans (by assumption) hx2) (fun hS=>?_)
      refine pT ?_
      refine sQ ?_
      refine zar ?_
      go_wp2_with fail
      go_ret
      exact⟨zf (by rw [Hv.out,zat Hge.out (by rw [zaz,he.out];dsimp only;rw [edgB,hA.out];simp)];simp),Hfin.out _ (by assumption)⟩
     ·have HA:=za hA
      clear hA
      have hA:=HA;clear HA
      cases hB:(decide (0≤e.ta)&&decide (e.ta<st))
      ·have HB:=za hB
       clear hB
       have hB:=HB;clear HB
       refine zC (fun X=>Ext W X) [0,1,2,3,4,5,6,7,8,9,10,11,12,13,14,15,16,17,18,19,20,21,22,23,24,25,26,27,28,29,30,31,32,33,34,35,36,37,38,39] (by kernel_rfl) rfl (by kernel_rfl) (by kernel_rfl) (fun _ _ _ _ _ h=>h) ((Ext.refl _).drew) (fun hS=>?_)
       refine sQ ?_
       refine zt (fun K hK=>?_)
       go_simp
       refine (zD).mono ?_
       rw [hA.out];rintro r w2 ⟨rfl,hx2⟩
       refine hK.out _ _ (Ext.trans (by assumption) hx2) (fun hS=>?_)
       refine pT ?_
       refine sQ ?_
       refine zt (fun K hK=>?_)
       go_simp
       refine (zD).mono ?_
       rw [hB.out];rintro r w3 ⟨rfl,hx3⟩
       refine hK.out _ _ (Ext.trans (by assumption) hx3) (fun hS=>?_)
       refine pT ?_
       refine sQ ?_
       refine zar ?_
       go_wp2_with fail
       go_ret
       exact⟨zf (by rw [Hv.out,zat Hge.out (by rw [zaz,he.out];dsimp only;rw [edgB,hA.out,hB.out];simp)];simp),Hfin.out _ (by assumption)⟩
      ·have HB:=za hB
       clear hB
       have hB:=HB;clear HB
       by_cases hle:6≤e.le
       ·have hL:decide (6≤e.le)=true:=by simp;omega
        refine zC (fun X=>Ext W X) [0,1,2,3,4,5,6,7,8,9,10,11,12,13,14,15,16,17,18,19,20,21,22,23,24,25,26,27,28,29,30,31,32,33,34,35,36,37,38,39] (by kernel_rfl) rfl (by kernel_rfl) (by kernel_rfl) (fun _ _ _ _ _ h=>h) ((Ext.refl _).drew) (fun hS=>?_)
        refine sQ ?_
        refine zt (fun K hK=>?_)
        go_simp
        refine (zD).mono ?_
        rw [hA.out];rintro r w2 ⟨rfl,hx2⟩
        refine hK.out _ _ (Ext.trans (by assumption) hx2) (fun hS=>?_)
        refine pT ?_
        refine sQ ?_
        refine zt (fun K hK=>?_)
        go_simp
        refine (zD).mono ?_
        rw [hB.out];rintro r w3 ⟨rfl,hx3⟩
        refine hK.out _ _ (Ext.trans (by assumption) hx3) (fun hS=>?_)
        refine pT ?_
        refine sQ ?_
        refine zar ?_
        go_wp2_with fail
        go_ret
        exact⟨zf (by rw [Hv.out,zat Hge.out (by rw [zaz,he.out];dsimp only;rw [edgB,hA.out,hB.out];simp;omega)];simp),Hfin.out _ (by assumption)⟩
       ·have hL:decide (6≤e.le)=false:=by simp;omega
        have hlt6:=za (show decide (e.le<6)=true by simp;omega)
        cases hC:hasB al e.le
        ·have HC:=za hC
         clear hC
         have hC:=HC;clear HC
         refine zC (fun X=>Ext W X) [0,1,2,3,4,5,6,7,8,9,10,11,12,13,14,15,16,17,18,19,20,21,22,23,24,25,26,27,28,29,30,31,32,33,34,35,36,37,38,39] (by kernel_rfl) rfl (by kernel_rfl) (by kernel_rfl) (fun _ _ _ _ _ h=>h) ((Ext.refl _).drew) (fun hS=>?_)
         refine sQ ?_
         refine zt (fun K hK=>?_)
         go_simp
         refine (zD).mono ?_
         rw [hA.out];rintro r w2 ⟨rfl,hx2⟩
         refine hK.out _ _ (Ext.trans (by assumption) hx2) (fun hS=>?_)
         refine pT ?_
         refine sQ ?_
         refine zt (fun K hK=>?_)
         go_simp
         refine (zD).mono ?_
         rw [hB.out];rintro r w3 ⟨rfl,hx3⟩
         refine hK.out _ _ (Ext.trans (by assumption) hx3) (fun hS=>?_)
         refine pT ?_
         refine sQ ?_
         refine zt (fun K hK=>?_)
         go_simp
         refine (zbl _ _ hsm _).mono ?_
         rw [hC.out];rintro r w4 ⟨rfl,rfl⟩
         refine hK.out _ _ (by assumption) (fun hS=>?_)
         refine pT ?_
         refine sQ ?_
         refine zar ?_
         go_wp2_with fail
         go_ret
         exact⟨zf (by rw [Hv.out,zat Hge.out (by rw [zaz,he.out];dsimp only;rw [edgB,hA.out,hB.out,hC.out];simp)];simp),Hfin.out _ (by assumption)⟩
        ·have HC:=za hC
         clear hC
         have hC:=HC;clear HC
         have hedg:=za (show edgB al st e=true by rw [edgB,hA.out,hB.out,hC.out,hlt6.out];rfl)
         by_cases hk0:k=0
         ·subst hk0
          refine zC (fun X=>Ext W X) [0,1,2,3,4,5,6,7,8,9,10,11,12,13,14,15,16,17,18,19,20,21,22,23,24,25,26,27,28,29,30,31,32,33,34,35,36,37,38,39] (by kernel_rfl) rfl (by kernel_rfl) (by kernel_rfl) (fun _ _ _ _ _ h=>h) ((Ext.refl _).drew) (fun hS=>?_)
          refine sQ ?_
          refine zt (fun K hK=>?_)
          go_simp
          refine (zD).mono ?_
          rw [hA.out];rintro r w2 ⟨rfl,hx2⟩
          refine hK.out _ _ (Ext.trans (by assumption) hx2) (fun hS=>?_)
          refine pT ?_
          refine sQ ?_
          refine zt (fun K hK=>?_)
          go_simp
          refine (zD).mono ?_
          rw [hB.out];rintro r w3 ⟨rfl,hx3⟩
          refine hK.out _ _ (Ext.trans (by assumption) hx3) (fun hS=>?_)
          refine pT ?_
          refine sQ ?_
          refine zt (fun K hK=>?_)
          go_simp
          refine (zbl _ _ hsm _).mono ?_
          rw [hC.out];rintro r w4 ⟨rfl,rfl⟩
          refine hK.out _ _ (by assumption) (fun hS=>?_)
          refine pT ?_
          refine sQ ?_
          refine zar ?_
          go_wp2_with fail
          go_roundw
          case rel=>exact⟨0+1,by omega,by go_num,zbA Hge.out hall.out (by rw [zaz,he.out];dsimp only;rw [hedg.out];simp),(zer.trans hx).trans (by assumption)⟩
          case measure=>simp [intOf];omega
         ·obtain⟨j,rfl⟩:∃ j,k=j+1:=⟨k - 1,by omega⟩
          have hp:s.edges[j]?=some (s.edges[j]'(by have:=h.1;omega)):=List.getElem?_eq_getElem _
          generalize s.edges[j]'(by have:=h.1;omega)=p at hp
          have Hp:=za hp
          clear hp
          have hpc:=(HR.out wr (((Ext.refl _).alloc _).trans zer)).edge2 Hp.out
          have p0:∀ X,Ext W X→X.cell? ⟨b,o+j*3,none⟩=some (.int .i64 p.fr):=fun X hX=>(hx.trans hX).cell_some hpc.1
          have p1:∀ X,Ext W X→X.cell? ⟨b,o+j*3+1,none⟩=some (.int .i64 p.le):=fun X hX=>(hx.trans hX).cell_some hpc.2.1
          have p2:∀ X,Ext W X→X.cell? ⟨b,o+j*3+2,none⟩=some (.int .i64 p.ta):=fun X hX=>(hx.trans hX).cell_some hpc.2.2
          clear hpc
          have hk1:decide ((0:Int)<(j:Int)+1)=true:=decide_eq_true (by omega)
          have hw1:IntKind.i64.wrap ((j:Int)+1 - 1)=(j:Int):=by rw [IntKind.wrap_i64];omega
          have hw2:IntKind.i64.wrap (j:Int)=(j:Int):=by rw [IntKind.wrap_i64];omega
          have hj0:(0:Int)≤(j:Int):=by omega
          have hj1:(j:Int)<(n:Int):=by omega
          have hpl:=cmpE_lt p e
          have Hpl:=za hpl
          clear hpl
          by_cases hc:0≤cmpE p e
          ·have hcd:decide (0≤cmpE p e)=true:=by simpa using hc
           have hnl:=za (show ltE p e=false by rw [Bool.eq_false_iff];intro hh;have:=Hpl.out.2 hh;omega)
           refine zC (fun X=>Ext W X) [0,1,2,3,4,5,6,7,8,9,10,11,12,13,14,15,16,17,18,19,20,21,22,23,24,25,26,27,28,29,30,31,32,33,34,35,36,37,38,39] (by kernel_rfl) rfl (by kernel_rfl) (by kernel_rfl) (fun _ _ _ _ _ h=>h) ((Ext.refl _).drew) (fun hS=>?_)
           refine sQ ?_
           refine zt (fun K hK=>?_)
           go_simp
           refine (zD).mono ?_
           rw [hA.out];rintro r w2 ⟨rfl,hx2⟩
           refine hK.out _ _ (Ext.trans (by assumption) hx2) (fun hS=>?_)
           refine pT ?_
           refine sQ ?_
           refine zt (fun K hK=>?_)
           go_simp
           refine (zD).mono ?_
           rw [hB.out];rintro r w3 ⟨rfl,hx3⟩
           refine hK.out _ _ (Ext.trans (by assumption) hx3) (fun hS=>?_)
           refine pT ?_
           refine sQ ?_
           refine zt (fun K hK=>?_)
           go_simp
           refine (zbl _ _ hsm _).mono ?_
           rw [hC.out];rintro r w4 ⟨rfl,rfl⟩
           refine hK.out _ _ (by assumption) (fun hS=>?_)
           refine pT ?_
           refine sQ ?_
           refine zt (fun K hK=>?_)
           go_simp
           refine (zba (a:=p) (b:=e)).mono ?_
           rintro r w5 ⟨rfl,hx5⟩
           refine hK.out _ _ (Ext.trans (by assumption) hx5) (fun hS=>?_)
           refine pT ?_
           refine sQ ?_
           refine zar ?_
           go_wp2_with fail
           go_ret
           exact⟨zf (by rw [Hv.out,zat Hge.out (by rw [zaz,he.out];dsimp only;rw [Nat.add_sub_cancel,Hp.out];simp [hnl.out])];simp),Hfin.out _ (by assumption)⟩
          ·have hcd:decide (0≤cmpE p e)=false:=by simp;omega
           have hnl:=za (show ltE p e=true from Hpl.out.1 (by omega))
           refine zC (fun X=>Ext W X) [0,1,2,3,4,5,6,7,8,9,10,11,12,13,14,15,16,17,18,19,20,21,22,23,24,25,26,27,28,29,30,31,32,33,34,35,36,37,38,39] (by kernel_rfl) rfl (by kernel_rfl) (by kernel_rfl) (fun _ _ _ _ _ h=>h) ((Ext.refl _).drew) (fun hS=>?_)
           refine sQ ?_
           refine zt (fun K hK=>?_)
           go_simp
           refine (zD).mono ?_
           rw [hA.out];rintro r w2 ⟨rfl,hx2⟩
           refine hK.out _ _ (Ext.trans (by assumption) hx2) (fun hS=>?_)
           refine pT ?_
           refine sQ ?_
           refine zt (fun K hK=>?_)
           go_simp
           refine (zD).mono ?_
           rw [hB.out];rintro r w3 ⟨rfl,hx3⟩
           refine hK.out _ _ (Ext.trans (by assumption) hx3) (fun hS=>?_)
           refine pT ?_
           refine sQ ?_
           refine zt (fun K hK=>?_)
           go_simp
           refine (zbl _ _ hsm _).mono ?_
           rw [hC.out];rintro r w4 ⟨rfl,rfl⟩
           refine hK.out _ _ (by assumption) (fun hS=>?_)
           refine pT ?_
           refine sQ ?_
           refine zt (fun K hK=>?_)
           go_simp
           refine (zba (a:=p) (b:=e)).mono ?_
           rintro r w5 ⟨rfl,hx5⟩
           refine hK.out _ _ (Ext.trans (by assumption) hx5) (fun hS=>?_)
           refine pT ?_
           refine sQ ?_
           refine zar ?_
           go_wp2_with fail
           go_roundw
           case rel=>exact⟨j+1+1,by omega,by go_num,zbA Hge.out hall.out (by rw [zaz,he.out];dsimp only;rw [Nat.add_sub_cancel,Hp.out,hedg.out];simp [hnl.out]),(zer.trans hx).trans (by assumption)⟩
           case measure=>simp [intOf];omega
    ·obtain rfl:k=n:=by omega
     go_wp2
     go_ret
     exact⟨zf (by rw [Hv.out,zdU (by simp) hall.out,hd.out];simp;omega),((Ext.refl _).alloc _).trans zer⟩
  ·go_enter Tryd.func64,Tryd.ntmps64
   have hd:=za (show decide (0≤s.al∧s.al≤63)=true by simp;omega)
   go_wp2_with (go_at_call 80;refine (zM _ _).mono ?_;rw [hd.out];rintro e w' ⟨rfl,rfl⟩)
   all_goals go_ret
   all_goals exact⟨zf (by rw [Hv.out];simp [hst]),(Ext.refl _).alloc _⟩
 ·go_enter Tryd.func64,Tryd.ntmps64
  have hd:=za (show decide (0≤s.al∧s.al≤63)=false by simp;omega)
  go_wp2_with (go_at_call 80;refine (zM _ _).mono ?_;rw [hd.out];rintro e w' ⟨rfl,rfl⟩)
  go_ret
  exact⟨zf (by rw [Hv.out];simp;omega),(Ext.refl _).alloc _⟩
theorem zbp {al:Nat} {st:Int} {e:Edg} {w:World}(hsm:Sm al) :
  Calls Tryd.prog 91 #[.int .i64 al,.int .i64 st,.agg #[.int .i64 e.fr,.int .i64 e.le,.int .i64 e.ta]] w fun r w'=>r=.returned (.bool (edgB al st e))∧Ext w w':=by
 have Hv:=za (show edgB al st e=((decide (0≤e.fr)&&decide (e.fr<st))&&((decide (0≤e.ta)&&decide (e.ta<st))&&(decide (e.le<6)&&hasB al e.le))) from rfl)
 by_cases h0:e.fr<0
 ·go_enter Tryd.func91,Tryd.ntmps91
  go_wp2
  go_ret
  exact⟨zf (by rw [Hv.out];simp;omega),(Ext.refl _).alloc _⟩
 ·by_cases h1:st≤e.fr
  ·go_enter Tryd.func91,Tryd.ntmps91
   go_wp2
   go_ret
   exact⟨zf (by rw [Hv.out];simp;omega),(Ext.refl _).alloc _⟩
  ·by_cases h2:e.ta<0
   ·go_enter Tryd.func91,Tryd.ntmps91
    go_wp2
    go_ret
    exact⟨zf (by rw [Hv.out];simp;omega),(Ext.refl _).alloc _⟩
   ·by_cases h3:st≤e.ta
    ·go_enter Tryd.func91,Tryd.ntmps91
     go_wp2
     go_ret
     exact⟨zf (by rw [Hv.out];simp;omega),(Ext.refl _).alloc _⟩
    ·by_cases h4:0≤e.le
     ·by_cases h5:e.le<6
      ·obtain⟨le,hle⟩:∃ le:Nat,Hid (e.le=le):=⟨e.le.toNat,by unfold Hid;omega⟩
       have hl6:(le:Int)<6:=by have:=hle.out;omega
       clear h4 h5
       rw [hle.out]
       go_enter Tryd.func91,Tryd.ntmps91
       go_wp2_with (go_at_call 33;refine (zA al le hsm _ (by omega)).mono ?_;rintro r w' ⟨rfl,rfl⟩)
       go_ret
       exact⟨zf (by rw [Hv.out,hle.out,decide_eq_true (show 0≤e.fr by omega),decide_eq_true (show e.fr<st by omega),decide_eq_true (show 0≤e.ta by omega),decide_eq_true (show e.ta<st by omega),decide_eq_true hl6];simp [hasB]),(Ext.refl _).alloc _⟩
      ·go_enter Tryd.func91,Tryd.ntmps91
       go_wp2_with fail
       go_ret
       exact⟨zf (by rw [Hv.out];simp;omega),(Ext.refl _).alloc _⟩
     ·go_enter Tryd.func91,Tryd.ntmps91
      go_wp2_with fail
      go_ret
      exact⟨zf (by rw [Hv.out];simp [hasB];omega),(Ext.refl _).alloc _⟩
theorem zbo {a b:Edg} {w:World} :
  Calls Tryd.prog 92 #[.agg #[.int .i64 a.fr,.int .i64 a.le,.int .i64 a.ta],.agg #[.int .i64 b.fr,.int .i64 b.le,.int .i64 b.ta]] w fun e w'=>e=.returned (.bool (ltE a b))∧Ext w w':=by
 have Hv:=za (show ltE a b=if a.fr=b.fr then if a.le=b.le then decide (a.ta<b.ta) else decide (a.le<b.le) else decide (a.fr<b.fr) from rfl)
 have hx:Ext w ((w.alloc (.cells #[Value.int .i64 a.fr,.int .i64 a.le,.int .i64 a.ta] 116)).alloc (.cells #[Value.int .i64 b.fr,.int .i64 b.le,.int .i64 b.ta] 116)):=((Ext.refl _).alloc _).alloc _
 have Hx:=za hx
 clear hx
 by_cases h0:a.fr=b.fr
 ·have n0:(a.fr != b.fr)=false:=by simp [h0]
  have H0:=za h0
  clear h0
  by_cases h1:a.le=b.le
  ·have n1:(a.le != b.le)=false:=by simp [h1]
   have H1:=za h1
   clear h1
   go_enter Tryd.func92,Tryd.ntmps92
   go_wp2
   go_ret
   exact⟨zf (by rw [Hv.out,if_pos H0.out,if_pos H1.out]),Hx.out⟩
  ·have n1:(a.le != b.le)=true:=by simp [h1]
   go_enter Tryd.func92,Tryd.ntmps92
   go_wp2
   go_ret
   exact⟨zf (by rw [Hv.out,if_pos H0.out,if_neg h1]),Hx.out⟩
 ·have n0:(a.fr != b.fr)=true:=by simp [h0]
  go_enter Tryd.func92,Tryd.ntmps92
  go_wp2
  go_ret
  exact⟨zf (by rw [Hv.out,if_neg h0]),Hx.out⟩
theorem zw {lo hi:Nat} {A:Option Addr} {n c:Nat} {s:Sys} {w:World}(h:zQ w lo hi A n s) :
  Calls Tryd.prog 53 #[.agg #[.int .i64 s.al,.int .i64 s.st,.slice A n c]] w fun e w'=>e=.returned (.bool (zk s))∧Ext w w':=by
 have Hv:=za (show zk s=(decide (0≤s.al∧s.al≤63)&&(decide (1≤s.st∧s.st≤16)&&(List.range n).all (zaz s.al.toNat s.st s.edges))) by unfold zk;rw [← h.1])
 have hn:=h.2.len
 by_cases hal:0≤s.al∧s.al≤63
 ·by_cases hst:1≤s.st∧s.st≤16
  ·obtain⟨al,hal'⟩:∃ al:Nat,Hid (s.al=al):=⟨s.al.toNat,by unfold Hid;omega⟩
   have hsm:Sm al:=by have:=hal'.out;unfold Sm;omega
   have hd:=za (show decide (0≤(al:Int)∧(al:Int)≤63)=true by have:=hal'.out;simp;omega)
   rw [hal'.out]
   rw [hal'.out,Int.toNat_natCast] at Hv
   clear hal
   have hd1:decide (s.st<1)=false:=by simp;omega
   have hd2:decide (16<s.st)=false:=by simp;omega
   obtain⟨st,hst',hs1,hs2⟩:∃ st:Int,Hid (s.st=st)∧1≤st∧st≤16:=⟨s.st,za rfl,hst.1,hst.2⟩
   rw [hst'.out] at hd1 hd2 Hv ⊢
   clear hst
   have hR:=fun W (hW:Ext w W)=>h.2.ext hW
   have HR:=za hR
   clear hR
   go_enter Tryd.func53,Tryd.ntmps53
   go_wp2_with (go_at_call 74;refine (zam _ _).mono ?_;rw [hd.out];rintro e w' ⟨rfl,rfl⟩)
   go_loopw [3] (fun i wr=>∃ k:Nat,k≤n∧i=.int .i64 k∧Hid (((List.range n).take k).all (zaz al st s.edges)=true)∧Ext (w.alloc (.cells #[Value.int .i64 al,.int .i64 st,Value.slice A n c] 39)) wr)
    (fun i _=>n - (intOf i).toNat)
   case atStart=>exact⟨0,Nat.zero_le _,rfl,rfl,Ext.refl _⟩
   case round =>
    obtain⟨k,hk,rfl,hall,zer⟩:=hrel
    have hbx:=zbN zer
    by_cases hlt:k<n
    ·obtain⟨b,o,e,rfl,hlo,hhi,he,c0,c1,c2⟩:=(HR.out wr (((Ext.refl _).alloc _).trans zer)).edge hlt
     go_wp2_with fail
     clear hbx
     have e0:∀ X,Ext wr X→∀ j,X.cell? ⟨w.heap.size,j,none⟩=#[Value.int .i64 al,.int .i64 st,Value.slice (some ⟨b,o,none⟩) n c][j]?:=fun X hX=>zbN (zer.trans hX)
     have q0:∀ X,Ext wr X→X.cell? ⟨b,o+k*3,none⟩=some (.int .i64 e.fr):=fun X hX=>hX.cell_some c0
     have q1:∀ X,Ext wr X→X.cell? ⟨b,o+k*3+1,none⟩=some (.int .i64 e.le):=fun X hX=>hX.cell_some c1
     have q2:∀ X,Ext wr X→X.cell? ⟨b,o+k*3+2,none⟩=some (.int .i64 e.ta):=fun X hX=>hX.cell_some c2
     have hr:=Ext.refl wr
     clear c0 c1 c2
     have zes:∀ X,Ext wr X→Ext w X:=fun X hX=>(((Ext.refl _).alloc _).trans zer).trans hX
     have Hfin:=za zes
     clear zes
     have hk0':(0:Int)≤(k:Int):=by omega
     have hk1':(k:Int)<(n:Int):=by omega
     have hge:(List.range n)[k]?=some k:=by rw [List.getElem?_range hlt]
     have Hge:=za hge
     clear hge
     cases hA':edgB al st e
     ·have hA:=za hA'
      clear hA'
      refine zC (fun X=>Ext wr X) [0,1,2,3,4,5,6,7,8,9,10,11,12,13,14,15,16,17,18,19,20,21,22,23,24,25,26,27,28,29] (by kernel_rfl) rfl (by kernel_rfl) (by kernel_rfl) (fun _ _ _ _ _ h=>h) ((Ext.refl _).drew) (fun hS=>?_)
      refine sQ ?_
      refine zt (fun K hK=>?_)
      go_simp
      refine (zbp (e:=e) hsm).mono ?_
      rw [hA.out];rintro r w2 ⟨rfl,hx2⟩
      refine hK.out _ _ (Ext.trans (by assumption) hx2) (fun hS=>?_)
      refine pT ?_
      refine sQ ?_
      refine zar ?_
      go_wp2_with fail
      go_ret
      exact⟨zf (by rw [Hv.out,zat Hge.out (by rw [zaz,he.out];dsimp only;rw [hA.out];simp)];simp),Hfin.out _ (by assumption)⟩
     ·have hA:=za hA'
      clear hA'
      by_cases hk0:k=0
      ·subst hk0
       simp only [Nat.zero_mul,Nat.add_zero] at q0 q1 q2
       refine zC (fun X=>Ext wr X) [0,1,2,3,4,5,6,7,8,9,10,11,12,13,14,15,16,17,18,19,20,21,22,23,24,25,26,27,28,29] (by kernel_rfl) rfl (by kernel_rfl) (by kernel_rfl) (fun _ _ _ _ _ h=>h) ((Ext.refl _).drew) (fun hS=>?_)
       refine sQ ?_
       refine zt (fun K hK=>?_)
       go_simp
       refine (zbp (e:=e) hsm).mono ?_
       rw [hA.out];rintro r w2 ⟨rfl,hx2⟩
       refine hK.out _ _ (Ext.trans (by assumption) hx2) (fun hS=>?_)
       refine pT ?_
       refine sQ ?_
       refine zar ?_
       go_wp2_with fail
       go_roundw
       case rel=>exact⟨0+1,by omega,by go_num,zbA Hge.out hall.out (by rw [zaz,he.out];dsimp only;rw [hA.out];simp),zer.trans (by assumption)⟩
       case measure=>simp [intOf];omega
      ·obtain⟨j,rfl⟩:∃ j,k=j+1:=⟨k - 1,by omega⟩
       have hp:s.edges[j]?=some (s.edges[j]'(by have:=h.1;omega)):=List.getElem?_eq_getElem _
       generalize s.edges[j]'(by have:=h.1;omega)=p at hp
       have Hp:=za hp
       clear hp
       have hpc:=(HR.out wr (((Ext.refl _).alloc _).trans zer)).edge2 Hp.out
       have p0:∀ X,Ext wr X→X.cell? ⟨b,o+j*3,none⟩=some (.int .i64 p.fr):=fun X hX=>hX.cell_some hpc.1
       have p1:∀ X,Ext wr X→X.cell? ⟨b,o+j*3+1,none⟩=some (.int .i64 p.le):=fun X hX=>hX.cell_some hpc.2.1
       have p2:∀ X,Ext wr X→X.cell? ⟨b,o+j*3+2,none⟩=some (.int .i64 p.ta):=fun X hX=>hX.cell_some hpc.2.2
       clear hpc
       have hk1:decide ((0:Int)<(j:Int)+1)=true:=decide_eq_true (by omega)
       have hw1:IntKind.i64.wrap ((j:Int)+1 - 1)=(j:Int):=by rw [IntKind.wrap_i64];omega
       have hw2:IntKind.i64.wrap (j:Int)=(j:Int):=by rw [IntKind.wrap_i64];omega
       have hj0:(0:Int)≤(j:Int):=by omega
       have hj1:(j:Int)<(n:Int):=by omega
       have hj2:(0:Int)≤(j:Int)+1:=by omega
       have hj3:(j:Int)+1<(n:Int):=by omega
       have hj4:((j:Int)+1).toNat=j+1:=by omega
       cases hnl':ltE p e
       ·have hnl:=za hnl'
        clear hnl'
        refine zC (fun X=>Ext wr X) [0,1,2,3,4,5,6,7,8,9,10,11,12,13,14,15,16,17,18,19,20,21,22,23,24,25,26,27,28,29] (by kernel_rfl) rfl (by kernel_rfl) (by kernel_rfl) (fun _ _ _ _ _ h=>h) ((Ext.refl _).drew) (fun hS=>?_)
        refine sQ ?_
        refine zt (fun K hK=>?_)
        go_simp
        refine (zbp (e:=e) hsm).mono ?_
        rw [hA.out];rintro r w2 ⟨rfl,hx2⟩
        refine hK.out _ _ (Ext.trans (by assumption) hx2) (fun hS=>?_)
        refine pT ?_
        refine sQ ?_
        refine zt (fun K hK=>?_)
        go_simp
        refine (zbo (a:=p) (b:=e)).mono ?_
        rw [hnl.out];rintro r w3 ⟨rfl,hx3⟩
        refine hK.out _ _ (Ext.trans (by assumption) hx3) (fun hS=>?_)
        refine pT ?_
        refine sQ ?_
        refine zar ?_
        go_wp2_with fail
        go_ret
        exact⟨zf (by rw [Hv.out,zat Hge.out (by rw [zaz,he.out];dsimp only;rw [Nat.add_sub_cancel,Hp.out];simp [hnl.out])];simp),Hfin.out _ (by assumption)⟩
       ·have hnl:=za hnl'
        clear hnl'
        refine zC (fun X=>Ext wr X) [0,1,2,3,4,5,6,7,8,9,10,11,12,13,14,15,16,17,18,19,20,21,22,23,24,25,26,27,28,29] (by kernel_rfl) rfl (by kernel_rfl) (by kernel_rfl) (fun _ _ _ _ _ h=>h) ((Ext.refl _).drew) (fun hS=>?_)
        refine sQ ?_
        refine zt (fun K hK=>?_)
        go_simp
        refine (zbp (e:=e) hsm).mono ?_
        rw [hA.out];rintro r w2 ⟨rfl,hx2⟩
        refine hK.out _ _ (Ext.trans (by assumption) hx2) (fun hS=>?_)
        refine pT ?_
        refine sQ ?_
        refine zt (fun K hK=>?_)
        go_simp
        refine (zbo (a:=p) (b:=e)).mono ?_
        rw [hnl.out];rintro r w3 ⟨rfl,hx3⟩
        refine hK.out _ _ (Ext.trans (by assumption) hx3) (fun hS=>?_)
        refine pT ?_
        refine sQ ?_
        refine zar ?_
        go_wp2_with fail
        go_roundw
        case rel=>exact⟨j+1+1,by omega,by go_num,zbA Hge.out hall.out (by rw [zaz,he.out];dsimp only;rw [Nat.add_sub_cancel,Hp.out,hA.out];simp [hnl.out]),zer.trans (by assumption)⟩
        case measure=>simp [intOf];omega
    ·obtain rfl:k=n:=by omega
     go_wp2
     go_ret
     exact⟨zf (by rw [Hv.out,zdU (by simp) hall.out,hd.out];simp;omega),((Ext.refl _).alloc _).trans zer⟩
  ·go_enter Tryd.func53,Tryd.ntmps53
   have hd:=za (show decide (0≤s.al∧s.al≤63)=true by simp;omega)
   go_wp2_with (go_at_call 74;refine (zam _ _).mono ?_;rw [hd.out];rintro e w' ⟨rfl,rfl⟩)
   all_goals go_ret
   all_goals exact⟨zf (by rw [Hv.out];simp [hst]),(Ext.refl _).alloc _⟩
 ·go_enter Tryd.func53,Tryd.ntmps53
  have hd:=za (show decide (0≤s.al∧s.al≤63)=false by simp;omega)
  go_wp2_with (go_at_call 74;refine (zam _ _).mono ?_;rw [hd.out];rintro e w' ⟨rfl,rfl⟩)
  go_ret
  exact⟨zf (by rw [Hv.out];simp;omega),(Ext.refl _).alloc _⟩
def zcm (s t:Sys):Bool:=zk s&&(zk t&&s.al==t.al)
theorem zaV {lo hi lo' hi':Nat} {A:Option Addr} {n c:Nat} {B:Option Addr} {m d:Nat} {s t:Sys} {w:World}(h:zQ w lo hi A n s)(h':zQ w lo' hi' B m t) :
  Calls Tryd.prog 29 #[.agg #[.int .i64 s.al,.int .i64 s.st,.slice A n c],.agg #[.int .i64 t.al,.int .i64 t.st,.slice B m d]] w fun e w'=>e=.returned (.bool (zcm s t))∧Ext w w':=by
 have HS:=za (fun W (hW:Ext w W)=>h.ext hW)
 have HT:=za (fun W (hW:Ext w W)=>h'.ext hW)
 clear h h'
 cases h1:zk s
 ·have H1:=za h1
  clear h1
  go_enter Tryd.func29,Tryd.ntmps29
  go_wp2_with (go_at_call 64;refine (zR (HS.out _ (((Ext.refl _).alloc _).alloc _))).mono ?_;rw [H1.out];rintro e w1 ⟨rfl,hx⟩)
  go_ret
  exact⟨zf (by unfold zcm;rw [H1.out];rfl),(((Ext.refl _).alloc _).alloc _).trans hx⟩
 ·have H1:=za h1
  clear h1
  cases h2:zk t
  ·have H2:=za h2
   clear h2
   go_enter Tryd.func29,Tryd.ntmps29
   go_wp2_with fail
   refine (zR (HS.out _ (((Ext.refl _).alloc _).alloc _))).mono ?_
   rw [H1.out]
   rintro e w1 ⟨rfl,hx⟩
   obtain⟨b1,b2⟩:=zv hx
   have c1:=b1.cell
   have c2:=b2.cell
   go_wp2_with fail
   refine (zR (HT.out _ ((((Ext.refl _).alloc _).alloc _).trans hx))).mono ?_
   rw [H2.out]
   rintro e w2 ⟨rfl,hx2⟩
   go_wp2_with fail
   go_ret
   exact⟨zf (by unfold zcm;rw [H1.out,H2.out];rfl),((((Ext.refl _).alloc _).alloc _).trans hx).trans hx2⟩
  ·have H2:=za h2
   clear h2
   cases h3:s.al==t.al
   all_goals
    have H3:=za h3
    go_enter Tryd.func29,Tryd.ntmps29
    go_wp2_with fail
    refine (zR (HS.out _ (((Ext.refl _).alloc _).alloc _))).mono ?_
    rw [H1.out]
    rintro e w1 ⟨rfl,hx⟩
    obtain⟨b1,b2⟩:=zv hx
    have c1:=b1.cell
    have c2:=b2.cell
    go_wp2_with fail
    refine (zR (HT.out _ ((((Ext.refl _).alloc _).alloc _).trans hx))).mono ?_
    rw [H2.out]
    rintro e w2 ⟨rfl,hx2⟩
    have d1:=(b1.ext hx2).cell
    have d2:=(b2.ext hx2).cell
    go_wp2_with fail
    go_ret
    exact⟨zf (by unfold zcm;rw [H1.out,H2.out,H3.out];first|rfl|simp_all),((((Ext.refl _).alloc _).alloc _).trans hx).trans hx2⟩
theorem zbd {lo hi lo' hi':Nat} {A:Option Addr} {n c:Nat} {B:Option Addr} {m d:Nat} {s t:Sys} {w:World}(h:zQ w lo hi A n s)(h':zQ w lo' hi' B m t) :
  Calls Tryd.prog 32 #[.agg #[.int .i64 s.al,.int .i64 s.st,.slice A n c],.agg #[.int .i64 t.al,.int .i64 t.st,.slice B m d]] w fun e w'=>e=.returned (.bool (zcm s t))∧Ext w w':=by
 have HS:=za (fun W (hW:Ext w W)=>h.ext hW)
 have HT:=za (fun W (hW:Ext w W)=>h'.ext hW)
 clear h h'
 cases h1:zk s
 ·have H1:=za h1
  clear h1
  go_enter Tryd.func32,Tryd.ntmps32
  go_wp2_with (go_at_call 53;refine (zw (HS.out _ (((Ext.refl _).alloc _).alloc _))).mono ?_;rw [H1.out];rintro e w1 ⟨rfl,hx⟩)
  go_ret
  exact⟨zf (by unfold zcm;rw [H1.out];rfl),(((Ext.refl _).alloc _).alloc _).trans hx⟩
 ·have H1:=za h1
  clear h1
  cases h2:zk t
  ·have H2:=za h2
   clear h2
   go_enter Tryd.func32,Tryd.ntmps32
   go_wp2_with fail
   refine (zw (HS.out _ (((Ext.refl _).alloc _).alloc _))).mono ?_
   rw [H1.out]
   rintro e w1 ⟨rfl,hx⟩
   obtain⟨b1,b2⟩:=zv hx
   have c1:=b1.cell
   have c2:=b2.cell
   go_wp2_with fail
   refine (zw (HT.out _ ((((Ext.refl _).alloc _).alloc _).trans hx))).mono ?_
   rw [H2.out]
   rintro e w2 ⟨rfl,hx2⟩
   go_wp2_with fail
   go_ret
   exact⟨zf (by unfold zcm;rw [H1.out,H2.out];rfl),((((Ext.refl _).alloc _).alloc _).trans hx).trans hx2⟩
  ·have H2:=za h2
   clear h2
   cases h3:s.al==t.al
   all_goals
    have H3:=za h3
    go_enter Tryd.func32,Tryd.ntmps32
    go_wp2_with fail
    refine (zw (HS.out _ (((Ext.refl _).alloc _).alloc _))).mono ?_
    rw [H1.out]
    rintro e w1 ⟨rfl,hx⟩
    obtain⟨b1,b2⟩:=zv hx
    have c1:=b1.cell
    have c2:=b2.cell
    go_wp2_with fail
    refine (zw (HT.out _ ((((Ext.refl _).alloc _).alloc _).trans hx))).mono ?_
    rw [H2.out]
    rintro e w2 ⟨rfl,hx2⟩
    have d1:=(b1.ext hx2).cell
    have d2:=(b2.ext hx2).cell
    go_wp2_with fail
    go_ret
    exact⟨zf (by unfold zcm;rw [H1.out,H2.out,H3.out];first|rfl|simp_all),((((Ext.refl _).alloc _).alloc _).trans hx).trans hx2⟩
noncomputable def gfp (both:Bool) (s t:Sys):List Nat:=Classical.epsilon (Gfp both s.edges t.edges s.st.toNat t.st.toNat)
theorem gfp_eq {both:Bool} {s t:Sys} {p q:Nat} {R:List Nat}(hp:s.st=p)(hq:t.st=q)(h:Gfp both s.edges t.edges p q R):R=gfp both s t:=by
 have e1:s.st.toNat=p:=by rw [hp];rfl
 have e2:t.st.toNat=q:=by rw [hq];rfl
 have h':Gfp both s.edges t.edges s.st.toNat t.st.toNat R:=by rw [e1,e2];exact h
 exact h'.unique (Classical.epsilon_spec ⟨R,h'⟩)
theorem exists_bits (n:Nat) (P:Nat→Prop):∃ a,a<2 ^ n∧∀ j,a.testBit j=true↔j<n∧P j:=by
 induction n with
 |zero=>exact⟨0,by simp,fun j=>by simp⟩
 |succ n ih =>
  obtain⟨a,ha,hj⟩:=ih
  by_cases hp:P n
  ·refine⟨2 ^ n*1+a,by rw [Nat.pow_succ];omega,fun j=>?_⟩
   rw [Nat.testBit_two_pow_mul_add _ ha]
   by_cases h:j<n
   ·rw [if_pos h,hj]
    exact⟨fun x=>⟨by omega,x.2⟩,fun x=>⟨h,x.2⟩⟩
   ·rw [if_neg h]
    by_cases e:j=n
    ·subst e;simp [hp]
    ·constructor
     ·intro x
      obtain⟨d,hd⟩:∃ d,j - n=d+1:=⟨j - n - 1,by omega⟩
      have h1:(1:Nat).testBit (d+1)=false:=by rw [Nat.testBit_succ];exact Nat.zero_testBit d
      rw [hd,h1] at x
      cases x
     ·intro x;omega
  ·refine⟨a,by rw [Nat.pow_succ];omega,fun j=>?_⟩
   rw [hj]
   constructor
   ·intro x;exact⟨by omega,x.2⟩
   ·rintro ⟨h1,h2⟩
    refine⟨?_,h2⟩
    rcases Nat.lt_or_ge j n with h|h
    ·exact h
    ·obtain rfl:j=n:=by omega
     exact absurd h2 hp
theorem gfp_exists (both:Bool) (es es':List Edg) (m n:Nat):∃ R,Gfp both es es' m n R:=by
 have hx:∀ i,∃ a,a<2 ^ n∧∀ j,a.testBit j=true↔j<n∧∃ X,Post both es es' m n X∧X i j:=fun i=>exists_bits n _
 obtain⟨f,hf⟩:∃ f:Nat→Nat,∀ i,f i<2 ^ n∧∀ j,(f i).testBit j=true↔j<n∧∃ X,Post both es es' m n X∧X i j:=⟨fun i=>Classical.choose (hx i),fun i=>Classical.choose_spec (hx i)⟩
 have hr:∀ i j,rel ((List.range m).map f) i j↔i<m∧j<n∧∃ X,Post both es es' m n X∧X i j:=by
  intro i j
  unfold rel
  rw [List.length_map,List.length_range]
  constructor
  ·rintro ⟨h1,h2⟩
   rw [List.getD_eq_getElem?_getD,List.getElem?_map,List.getElem?_range h1] at h2
   exact⟨h1,((hf i).2 j).1 h2⟩
  ·rintro ⟨h1,h2⟩
   refine⟨h1,?_⟩
   rw [List.getD_eq_getElem?_getD,List.getElem?_map,List.getElem?_range h1]
   exact ((hf i).2 j).2 h2
 refine⟨(List.range m).map f,⟨by simp,fun r hr=>?_,fun X hX i j hx=>(hr i j).2 ⟨(hX i j hx).1,(hX i j hx).2.1,X,hX,hx⟩⟩,fun i j h=>?_⟩
 ·obtain⟨i,_,rfl⟩:=List.mem_map.1 hr
  exact (hf i).1
 ·obtain⟨h1,h2,X,hX,hx⟩:=(hr i j).1 h
  exact (hX i j hx).2.2.mono fun a b hab=>(hr a b).2 ⟨(hX a b hab).1,(hX a b hab).2.1,X,hX,hab⟩
theorem gfp_spec (both:Bool) (s t:Sys):Gfp both s.edges t.edges s.st.toNat t.st.toNat (gfp both s t):=Classical.epsilon_spec (gfp_exists both s.edges t.edges s.st.toNat t.st.toNat)
theorem zan {s:Sys}(h:zk s=true):∃ p:Nat,s.st=p∧1≤p∧p≤16∧Few p s.edges:=by
 simp only [zk,Bool.and_eq_true,decide_eq_true_eq,List.all_eq_true,List.mem_range] at h
 obtain⟨_,⟨h1,h2⟩,h3⟩:=h
 refine⟨s.st.toNat,by omega,by omega,by omega,fun e he=>?_⟩
 obtain⟨k,hk⟩:=List.getElem?_of_mem he
 have:=h3 k (List.getElem?_eq_some_iff.1 hk).1
 rw [zaz,hk] at this
 simp only [Bool.and_eq_true,edgB,decide_eq_true_eq,hasB] at this
 omega
theorem zbC {s t:Sys}(h:zcm s t=true):zk s=true∧zk t=true∧s.al=t.al:=by
 simp only [zcm,Bool.and_eq_true,beq_iff_eq] at h
 exact⟨h.1,h.2.1,h.2.2⟩
theorem gfp_small {both:Bool} {s t:Sys} {p q:Nat} {R:List Nat}(hq:q≤16)(h:Gfp both s.edges t.edges p q R):∀ r∈R,Sm r:=fun r hr=>by
 refine Sm.of_lt (Nat.lt_of_lt_of_le (h.small r hr) ?_)
 rw [show (4294967296:Nat)=2 ^ 32 from rfl]
 exact Nat.pow_le_pow_right (by omega) (by omega)
noncomputable def simB (both:Bool) (s t:Sys):Bool:=zcm s t&&((gfp both s t).getD 0 0).testBit 0
theorem impl_Simulates {lo hi lo' hi':Nat} {A:Option Addr} {n c:Nat} {B:Option Addr} {m d:Nat} {s t:Sys} {w:World}(h:zQ w lo hi A n s)(h':zQ w lo' hi' B m t)(hT:Tab w) :
  Calls Tryd.prog 12 #[.agg #[.int .i64 s.al,.int .i64 s.st,.slice A n c],.agg #[.int .i64 t.al,.int .i64 t.st,.slice B m d]] w fun e w'=>e=.returned (.bool (simB false s t))∧Ext w w':=by
 have HS:=za (fun W (hW:Ext w W)=>h.ext hW)
 have HT:=za (fun W (hW:Ext w W)=>h'.ext hW)
 clear h h'
 cases h1:zcm s t
 ·have H1:=za h1
  clear h1
  go_enter Tryd.func12,Tryd.ntmps12
  go_wp2_with (go_at_call 29;refine (zaV (HS.out _ (((Ext.refl _).alloc _).alloc _)) (HT.out _ (((Ext.refl _).alloc _).alloc _))).mono ?_;rw [H1.out];rintro e w1 ⟨rfl,hx⟩)
  go_ret
  exact⟨zf (by unfold simB;rw [H1.out];rfl),(((Ext.refl _).alloc _).alloc _).trans hx⟩
 ·obtain⟨v1,v2,-⟩:=zbC h1
  obtain⟨p,hp,hp1,hp2,hf⟩:=zan v1
  obtain⟨q,hq,hq1,hq2,hg⟩:=zan v2
  have H1:=za h1
  have Hf:=za hf
  have Hg:=za hg
  have Hp:=za hp
  have Hq:=za hq
  clear h1 v1 v2 hf hg hp hq
  go_enter Tryd.func12,Tryd.ntmps12
  go_wp2_with fail
  refine (zaV (HS.out _ (((Ext.refl _).alloc _).alloc _)) (HT.out _ (((Ext.refl _).alloc _).alloc _))).mono ?_
  rw [H1.out]
  rintro e w1 ⟨rfl,hx⟩
  obtain⟨b1,b2⟩:=zv hx
  have c1:=b1.cell
  have c2:=b2.cell
  have hw1:=(((Ext.refl w).alloc _).alloc _).trans hx
  go_wp2_with fail
  refine (zbu (both:=false) (HS.out _ hw1) (HT.out _ hw1) (hT.ext hw1) Hp.out Hq.out hp1 hp2 hq2 Hf.out Hg.out).mono ?_
  rintro e w2 ⟨g,R,rfl,zep,hG,hx2⟩
  have hRl:=hG.len
  obtain⟨r,hr⟩:∃ r,R[0]?=some r:=⟨_,List.getElem?_eq_getElem (by omega)⟩
  have hrs:=gfp_small hq2 hG r (List.mem_of_getElem? hr)
  have hc0:w2.cell? ⟨g,0,none⟩=some (.int .i64 (r:Nat)):=by rw [zep.cellAt 0 (by omega)];simp [zF,hr]
  have hres:=za (show r.testBit 0=simB false s t by unfold simB;rw [H1.out,← gfp_eq Hp.out Hq.out hG,List.getD_eq_getElem?_getD,hr];rfl)
  have Hhas:=za (show Calls Tryd.prog 30 #[.int .i64 r,.int .i64 (0:Int)] w2 fun e w'=>e=.returned (.bool (simB false s t))∧w2=w' by rw [← hres.out];exact (by have:=zbl r (0:Int) hrs w2;have e:hasB r 0=r.testBit 0:=(by simp [hasB]);rw [e] at this;exact this))
  clear hr hRl hres
  go_wp2_with (go_at_call 30;refine (Hhas.out).mono ?_;rintro e w3 ⟨rfl,rfl⟩)
  go_ret
  exact⟨rfl,hw1.trans hx2⟩
theorem spec_Simulates {lo hi lo' hi':Nat} {A:Option Addr} {n c:Nat} {B:Option Addr} {m d:Nat} {s t:Sys} {w:World}(h:zQ w lo hi A n s)(h':zQ w lo' hi' B m t) :
  Calls Tryd.prog 13 #[.agg #[.int .i64 s.al,.int .i64 s.st,.slice A n c],.agg #[.int .i64 t.al,.int .i64 t.st,.slice B m d]] w fun e w'=>e=.returned (.bool (simB false s t))∧Ext w w':=by
 have HS:=za (fun W (hW:Ext w W)=>h.ext hW)
 have HT:=za (fun W (hW:Ext w W)=>h'.ext hW)
 clear h h'
 cases h1:zcm s t
 ·have H1:=za h1
  clear h1
  go_enter Tryd.func13,Tryd.ntmps13
  go_wp2_with (go_at_call 32;refine (zbd (HS.out _ (((Ext.refl _).alloc _).alloc _)) (HT.out _ (((Ext.refl _).alloc _).alloc _))).mono ?_;rw [H1.out];rintro e w1 ⟨rfl,hx⟩)
  go_ret
  exact⟨zf (by unfold simB;rw [H1.out];rfl),(((Ext.refl _).alloc _).alloc _).trans hx⟩
 ·obtain⟨v1,v2,-⟩:=zbC h1
  obtain⟨p,hp,hp1,hp2,hf⟩:=zan v1
  obtain⟨q,hq,hq1,hq2,hg⟩:=zan v2
  have H1:=za h1
  have Hf:=za hf
  have Hg:=za hg
  have Hp:=za hp
  have Hq:=za hq
  clear h1 v1 v2 hf hg hp hq
  go_enter Tryd.func13,Tryd.ntmps13
  go_wp2_with fail
  refine (zbd (HS.out _ (((Ext.refl _).alloc _).alloc _)) (HT.out _ (((Ext.refl _).alloc _).alloc _))).mono ?_
  rw [H1.out]
  rintro e w1 ⟨rfl,hx⟩
  obtain⟨b1,b2⟩:=zv hx
  have c1:=b1.cell
  have c2:=b2.cell
  have hw1:=(((Ext.refl w).alloc _).alloc _).trans hx
  go_wp2_with fail
  refine (zdE (both:=false) (HS.out _ hw1) (HT.out _ hw1) Hp.out Hq.out hp1 hp2 hq2 Hf.out Hg.out).mono ?_
  rintro e w2 ⟨g,c0,R,rfl,zep,hG,hx2⟩
  have hRl:=hG.len
  obtain⟨r,hr⟩:∃ r,R[0]?=some r:=⟨_,List.getElem?_eq_getElem (by omega)⟩
  have hrs:=gfp_small hq2 hG r (List.mem_of_getElem? hr)
  have hc0:w2.cell? ⟨g,0,none⟩=some (.int .i64 (r:Nat)):=by rw [zep.cellAt 0 (by omega)];simp [zF,hr]
  have hres:=za (show r.testBit 0=simB false s t by unfold simB;rw [H1.out,← gfp_eq Hp.out Hq.out hG,List.getD_eq_getElem?_getD,hr];rfl)
  have Hhas:=za (show Calls Tryd.prog 33 #[.int .i64 r,.int .i64 (0:Int)] w2 fun e w'=>e=.returned (.bool (simB false s t))∧w2=w' by rw [← hres.out];exact (zA r 0 hrs w2 (by omega)))
  clear hr hRl hres
  go_wp2_with (go_at_call 33;refine (Hhas.out).mono ?_;rintro e w3 ⟨rfl,rfl⟩)
  go_ret
  exact⟨rfl,hw1.trans hx2⟩
def RetFmt (s:Sys) (w:World) (e:Ending) (w':World):Prop:=∃ t:ByteArray,e=.returned (.string t)∧(zk s=false→t.size=0)∧Ext w w'
theorem zen {s:Sys}(h:zk s=true):∃ a:Nat,s.al=a∧a<64:=by
 simp only [zk,Bool.and_eq_true,decide_eq_true_eq] at h
 exact⟨s.al.toNat,by omega,by omega⟩
theorem zcC {lo hi:Nat} {A:Option Addr} {n c:Nat} {s:Sys} {w:World}(h:zQ w lo hi A n s)(hn:n≤1000000) :
  Calls Tryd.prog 117 #[.agg #[.int .i64 s.al,.int .i64 s.st,.slice A n c]] w (RetFmt s w):=by
 have HS:=za (fun W (hW:Ext w W)=>h.ext hW)
 clear h
 cases h1:zk s
 ·have H1:=za h1
  clear h1
  go_enter Tryd.func117,Tryd.ntmps117
  go_wp2_with (go_at_call 53;refine (zw (HS.out _ ((Ext.refl _).alloc _))).mono ?_;rw [H1.out];rintro e w1 ⟨rfl,hx⟩)
  go_ret
  exact⟨_,rfl,fun _=>rfl,((Ext.refl _).alloc _).trans hx⟩
 ·obtain⟨p,hp,hp1,hp2,hf⟩:=zan h1
  obtain⟨a,ha,ha2⟩:=zen h1
  have H1:=za h1
  have Hf:=za hf
  have Hp:=za hp
  have Ha:=za ha
  clear h1 hf hp ha
  go_enter Tryd.func117,Tryd.ntmps117
  go_wp2_with fail
  refine (zw (HS.out _ ((Ext.refl _).alloc _))).mono ?_
  rw [H1.out]
  rintro e w1 ⟨rfl,hx⟩
  have b1:=zaH hx
  rw [Ha.out,Hp.out] at b1
  have hw1:=((Ext.refl w).alloc _).trans hx
  have cb:=b1.cells
  go_wp2_with fail
  refine tR (fun X=>Ext w1 X) [] (Ord.of [0,1,4,5,2,3,6,7,8]) ?_
  refine tQ ?_
  refine zc fun K hK=>?_;go_simp
  refine (zaP ha2).mono ?_
  rintro e w2 ⟨t2,rfl,ht2,hx2⟩
  have hx12:=((Ext.refl w1).drew).trans hx2
  have q1:¬ 9223372036854775807<t2.size+1:=by omega
  refine hK.out _ _ hx12 ?_
  refine pT ?_
  refine tQ ?_
  refine zc fun K hK=>?_;go_simp
  refine (zbT (n:=p) (by omega)).mono ?_
  rintro e w3 ⟨t3,rfl,ht3,hx3⟩
  have hx13:=hx12.trans hx3
  have q2:¬ 9223372036854775807<t2.size+1+t3.size:=by omega
  refine hK.out _ _ hx13 ?_
  refine pT ?_
  refine tQ ?_
  refine zr ?_
  obtain⟨t4,ht4⟩:∃ t4:ByteArray,t4=t2++{ data:=#[32] }++t3:=⟨_,rfl⟩
  have hs4:t4.size≤20:=by rw [ht4,ByteArray.size_append,ByteArray.size_append];show t2.size+1+t3.size≤20;omega
  rw [← ht4]
  clear ht4 q1 q2 ht2 ht3 hx2 hx3 hx12
  have hext0:=hx13
  go_wp2_with fail
  go_loopw [3,4] (fun v i wr=>∃ (k:Nat) (t:ByteArray),k≤n∧i=.int .i64 k∧v=.string t∧t.size≤20+20*k∧Ext w1 wr) (fun _ i _=>n - (intOf i).toNat)
  case atStart=>exact⟨0,t4,Nat.zero_le _,rfl,rfl,hs4,hext0⟩
  case round =>
   clear hext0 hx13 hs4
   obtain⟨k,t,hk,rfl,rfl,ht,zer⟩:=hrel
   have cb0:=cb wr zer
   by_cases hlt:k<n
   ·obtain⟨b,o,x,rfl,_,_,hx0,c0,c1,c2⟩:=(HS.out wr (hw1.trans zer)).2.edge hlt
    obtain⟨⟨f0,f1⟩,⟨g0,g1⟩,⟨t0,t1⟩⟩:=Hf.out x (List.mem_of_getElem? hx0.out)
    obtain⟨u,hue⟩:∃ u:Nat,x.fr=u:=⟨x.fr.toNat,by omega⟩
    obtain⟨v,hve⟩:∃ v:Nat,x.ta=v:=⟨x.ta.toNat,by omega⟩
    rw [hue] at c0 f0 f1
    rw [hve] at c2 t0 t1
    clear hue hve
    go_wp2_with fail
    have hxq:=(Ext.refl wr).alloc (.cells #[.int .i64 u,.int .i64 x.le,.int .i64 v] 116)
    have hbq:=Blk.new wr 116 #[.int .i64 u,.int .i64 x.le,.int .i64 v]
    generalize wr.alloc (.cells #[.int .i64 u,.int .i64 x.le,.int .i64 v] 116)=wq at *
    have cq:=hbq.cells
    have q0:¬ 9223372036854775807<t.size+1:=by omega
    refine tR (fun X=>Ext wq X) [] (Ord.of [0,1,2,3,6,7,10,11,4,5,8,9,12,13,14]) ?_
    refine tQ ?_
    refine zc fun K hK=>?_;go_simp
    refine (zbT (n:=u) (by omega)).mono ?_
    rintro e w2 ⟨t2,rfl,ht2,hx2⟩
    have hy2:=((Ext.refl wq).drew).trans hx2
    have q1:¬ 9223372036854775807<t.size+1+t2.size:=by omega
    refine hK.out _ _ hy2 ?_
    refine pT ?_
    refine tQ ?_
    refine zc fun K hK=>?_;go_simp
    refine (zdo (l:=x.le) g0 g1).mono ?_
    rintro e w3 ⟨t3,rfl,ht3,hx3⟩
    have hy3:=hy2.trans hx3
    have q2:¬ 9223372036854775807<t.size+1+t2.size+t3.size:=by omega
    refine hK.out _ _ hy3 ?_
    refine pT ?_
    refine tQ ?_
    refine zc fun K hK=>?_;go_simp
    refine (zbT (n:=v) (by omega)).mono ?_
    rintro e w5 ⟨t5,rfl,ht5,hx5⟩
    have hy5:=hy3.trans hx5
    have q3:¬ 9223372036854775807<t.size+1+t2.size+t3.size+t5.size:=by omega
    refine hK.out _ _ hy5 ?_
    refine pT ?_
    refine tQ ?_
    refine zr ?_
    have hs6:(t++{ data:=#[32] }++t2++t3++t5).size≤20+20*(k+1):=by
     simp only [ByteArray.size_append]
     show t.size+1+t2.size+t3.size+t5.size≤_
     omega
    clear q0 q1 q2 q3
    go_wp2_with fail
    go_roundw
    case rel=>exact⟨k+1,_,by omega,by go_num,rfl,hs6,(zer.trans hxq).trans hy5⟩
    case measure=>simp [intOf];omega
   ·obtain rfl:n=k:=by omega
    go_wp2_with fail
    go_ret
    have hv:=H1.out
    exact⟨t,rfl,fun h=>absurd (hv.symm.trans h) (by decide),hw1.trans zer⟩
theorem wpList_push2 {P:Program} (wb w:World) {ops:Array Oper} {rest:List Oper} {o:Oper} {a:Act} {Q:Exit→Act→World→Prop}(hgd:o.guard=none) (s x:Operand) (t:TypeId)
  (ho:o.op=.call { callee:=.builtin .append,args:=#[s,x],argTypes:=#[t,t] })
  (e:TypeId) (z:Value) (size bytes:Nat) (ht:P.underlying t=some (.slice e)) (hi:(P.info? e).map (fun i=>(i.zero,i.size,i.bytes))=some (some z,size,bytes)) (hzs:z.cells.size=size) (hsz:0<size)
  (v:Value) (n:Nat) (xs:List Value) (us:Array Value) (e':TypeId) (hs:a.eval s=v) (hx:a.eval x=.slice (some ⟨w.heap.size,0,none⟩) 1 1)
  (zer:wb.heap.size≤w.heap.size) (zep:w.ownsRow wb.heap.size e size v n xs) (hus:us.size=size) (h1:∀ u∈us.toList,u.oneCell'=true)
  (h63:n+1≤maxLen) (hbytes:(n+1)*bytes≤140737488355328)
  (h:∀ g cap w',w'.ownsRow wb.heap.size e size (.slice (some ⟨g,0,none⟩) (n+1) cap) (n+1) (xs++us.toList)→w.grownBy w' v.ownBlock→(v.ownBlock=some g∨g=w.heap.size+1)→g<w'.heap.size→wpList P ops Q rest (a.put o.dst (.slice (some ⟨g,0,none⟩) (n+1) cap)) w') :
  wpList P ops Q (o :: rest) a (w.alloc (.cells us e')):=
 wpList_plain hgd fun _ hK=>zab wb w s x t ho e z size bytes ht hi hzs hsz v n xs us e' hs hx zer zep hus h1 h63 hbytes fun g cap w' h2 h3 h4 h5=>hK _ _ (h g cap w' h2 h3 h4 h5)
theorem Reads.str {w:World} {lo hi n k:Nat} {A:Option Addr} {l:List ByteArray}(h:Reads w lo hi 1 A n (strs l))(hk:k<n):∃ ad x,A=some ad∧lo≤ad.block∧ad.block<hi∧Hid (l[k]?=some x)∧w.cell? (ad.add k)=some (.string x):=by
 obtain⟨ad,u,e,h1,h2,hu,hc⟩:=h.one hk
 have:=hu.out
 simp only [strs,List.getElem?_map,Option.map_eq_some_iff] at this
 obtain⟨x,hx,rfl⟩:=this
 exact⟨ad,x,e,h1,h2,hx,hc⟩
theorem zdQ {s:Sys}(h:zk s=true):Good s:=by
 obtain⟨p,hp,hp1,hp2,hf⟩:=zan h
 obtain⟨a,ha,ha2⟩:=zen h
 exact⟨a,p,ha,ha2,hp,hp1,hp2,hf⟩
theorem Acc.fillRD {w0 wB W:World} {R G M Z:Nat} {al st:Int} {v:Value} {es:List Edg}(h:Acc w0 wB W R G M al st v es)(hZ:w0.heap.size≤Z) (u0 u1 u2:Value) :
  Rd (((W.setCell ⟨Z,0,none⟩ u0).setCell ⟨Z,1,none⟩ u1).setCell ⟨Z,2,none⟩ u2) R M∧Dr R w0 (((W.setCell ⟨Z,0,none⟩ u0).setCell ⟨Z,1,none⟩ u1).setCell ⟨Z,2,none⟩ u2):=
 ⟨h.rd.frm (zaj W Z u0 u1 u2) (fun k h1 h2=>by have:=h.hR;omega),((h.dr.setNew (p:=⟨Z,0,none⟩) hZ u0).setNew (p:=⟨Z,1,none⟩) hZ u1).setNew (p:=⟨Z,2,none⟩) hZ u2⟩
theorem str_empty {t x:ByteArray}(h:t.toList=x.toList)(h0:t.size=0):x.size=0:=by
 have h1:=congrArg List.length h
 rw [ByteArray.toList_eq,ByteArray.toList_eq] at h1
 have e1:t.data.toList.length=t.size:=rfl
 have e2:x.data.toList.length=x.size:=rfl
 omega
def Fair (s:Sys):Prop:=∃ a p:Nat,s.al=a∧a<64∧s.st=p∧p≤16∧Few (p+1) s.edges
theorem Good.fair {s:Sys}(h:Good s):Fair s:=by
 obtain⟨a,p,h1,h2,h3,_,h5,h6⟩:=h
 exact⟨a,p,h1,h2,h3,h5,fun e he=>by have:=h6 e he;omega⟩
theorem fair_zero:Fair ⟨0,0,[]⟩:=⟨0,0,rfl,by omega,rfl,by omega,fun e he=>by cases he⟩
def zdS (R M L:Nat) (w:World) (e:Ending) (w':World):Prop:=
 ∃ (s:Sys) (A:Option Addr) (n c:Nat) (ok:Bool),e=.returned (.tuple #[.agg #[.int .i64 s.al,.int .i64 s.st,.slice A n c],.bool ok])∧zK w' R A n s∧((ok=true→Good s)∧Fair s)∧(n≤L∧n≤c)∧Rd w' R M∧Dr R w w'
theorem zcV {R M L:Nat} {w w':World}(h:Rd w' R M)(hd:Dr R w w'):zdS R M L w (.returned (.tuple #[.agg #[.int .i64 0,.int .i64 0,.slice none 0 0],.bool false])) w':=
 ⟨⟨0,0,[]⟩,none,0,0,false,rfl,⟨rfl,by omega,fun h0=>by omega⟩,⟨(fun h=>by cases h),fair_zero⟩,⟨Nat.zero_le _,Nat.le_refl _⟩,h,hd⟩
theorem yV03a8 {P:Prop}(h:P:=by
 obtain⟨g1,g2⟩:=hacc4.fillRD (Z:=w.heap.size) (Nat.le_refl _) (.int .i64 0) (.int .i64 0) (.slice none 0 0)
 exact bodyPost_ret (v:=.tuple #[.agg #[.int .i64 0,.int .i64 0,.slice none 0 0],.bool false]) (by simp [results,Tryd.results94,go_sem,hz4]) rfl (zcV g1 g2)
 ):P:=h
theorem yV03a9 {P:Prop}(h:P:=by
 go_wp2_with fail
 exact bodyPost_ret (v:=.tuple #[.agg #[.int .i64 0,.int .i64 0,.slice none 0 0],.bool false]) (by simp [results,Tryd.results94,go_sem,cz2]) rfl Hnone.out
 ):P:=h
theorem zcP {R M:Nat} {x:ByteArray} {w:World}(h:Rd w R M)(hx:x.size≤1000) :
  Calls Tryd.prog 94 #[.string x] w (zdS R M 1001 w):=by
 have hRl:=h.lt
 go_enter Tryd.func94,Tryd.ntmps94
 go_wp2_with fail
 refine (spec_l19Cut (s:=x) (by omega)).mono ?_
 rintro e w1 ⟨B,m,d,l,rfl,hml,zet,hlx,hm,hx1⟩
 have bz1:=zaH hx1
 have hzz:=bz1.lt
 have hw1:=((Ext.refl w).alloc _).trans hx1
 have hrd:=(Reads.of_own zet).more (lo':=w.heap.size+1) (hi':=w1.heap.size) (by simp) (Nat.le_refl _)
 have Hlx:=za hlx
 have Hml:=za hml
 clear zet hlx hml hx1
 have cz:=bz1.cell
 have fz:=bz1.frozen
 have hfill:=za (fun (W:World) (hW:Ext w1 W) (u0 u1 u2:Value)=>(⟨(h.ext (hw1.trans hW)).frm (zaj W w.heap.size u0 u1 u2) (fun k hk hS=>by omega),(((hw1.trans hW).dr.setNew (R:=R) (p:=⟨w.heap.size,0,none⟩) (Nat.le_refl _) u0).setNew (p:=⟨w.heap.size,1,none⟩) (Nat.le_refl _) u1).setNew (p:=⟨w.heap.size,2,none⟩) (Nat.le_refl _) u2⟩:Rd (((W.setCell ⟨w.heap.size,0,none⟩ u0).setCell ⟨w.heap.size,1,none⟩ u1).setCell ⟨w.heap.size,2,none⟩ u2) R M∧Dr R w (((W.setCell ⟨w.heap.size,0,none⟩ u0).setCell ⟨w.heap.size,1,none⟩ u1).setCell ⟨w.heap.size,2,none⟩ u2)))
 by_cases hm2:m<2
 ·go_wp2_with fail
  obtain⟨g1,g2⟩:=hfill.out w1 (Ext.refl _) (.int .i64 0) (.int .i64 0) (.slice none 0 0)
  exact bodyPost_ret (v:=.tuple #[.agg #[.int .i64 0,.int .i64 0,.slice none 0 0],.bool false]) (by simp [results,Tryd.results94,go_sem,cz]) rfl (zcV g1 g2)
 ·obtain⟨ad,x0,rfl,hlo,hhi,hx0,hc0⟩:=hrd.str (k:=0) (by omega)
  obtain⟨b,o,rfl⟩:∃ b o,ad=⟨b,o,none⟩:=⟨_,_,zaZ hc0⟩
  rw [zP,Nat.add_zero] at hc0
  obtain⟨ad',x1,hae,_,_,hx1,hc1⟩:=hrd.str (k:=1) (by omega)
  obtain rfl:=Option.some.inj hae
  rw [zP] at hc1
  have hm2':(2:Int)≤(m:Int):=by omega
  have hb1:=za (Hlx.out x1 (List.mem_of_getElem? hx1.out))
  go_wp2_with fail
  refine (zcn (x:=x0)).mono ?_
  rintro e w2 ⟨a,ok1,rfl,ha,hx2⟩
  have hc12:=hx2.cell_some hc1
  have bz2:=bz1.ext hx2
  have cz2:=bz2.cell
  have fz2:=bz2.frozen
  go_wp2_with fail
  refine (zbU (s:=x1) (by have:=hb1.out;omega)).mono ?_
  rintro e w2' ⟨st,ok2,rfl,rfl⟩
  obtain⟨g1,g2⟩:=hfill.out w2 hx2 (.int .i64 0) (.int .i64 0) (.slice none 0 0)
  have Hnone:=za (zcV (L:=1001) g1 g2)
  clear g1 g2
  cases ok1
  ·exact yV03a9
  ·cases ok2
   ·exact yV03a9
   ·have bG:=Blk.new w2 39 #[.int .i64 a,.int .i64 st,.slice none 0 0]
    have hx3:=(Ext.refl w2).alloc (.cells #[.int .i64 a,.int .i64 st,.slice none 0 0] 39)
    have hz3:w2.heap.size<(w2.alloc (.cells #[.int .i64 a,.int .i64 st,.slice none 0 0] 39)).heap.size:=by simp
    have hz12:=hx2.size
    have hz01:=hw1.size
    have hw2:=hw1.trans hx2
    clear hc0 hc1 hc12 cz fz cz2 fz2
    go_wp2_with fail
    generalize w2.alloc (.cells #[.int .i64 a,.int .i64 st,.slice none 0 0] 39)=w3 at *
    have hw3:=hw2.trans hx3
    have hrd3:=(hrd.ext hx2).ext hx3
    have bz3:=bz2.ext hx3
    have zeq:Acc w w3 w3 R w2.heap.size M a st (.slice none 0 0) []:=⟨bG,World.ownsRow_nil _ _ _ _,h.ext hw3,hw3.dr,Frm.refl _ _,hRl,hw3.size,by omega⟩
    go_loopw [10] (fun i wr=>∃ (k:Nat) (v:Value) (es:List Edg),2≤k∧k≤m∧i=.int .i64 k∧Acc w w3 wr R w2.heap.size M a st v es∧es.length≤k) (fun i _=>m - (intOf i).toNat)
    case atStart=>exact⟨2,_,[],Nat.le_refl _,by omega,rfl,zeq,Nat.zero_le _⟩
    case round =>
     clear zeq
     obtain⟨k,v,es,hk2,hk,rfl,zeq,hel⟩:=hrel
     have hG:=zeq.blk.cell
     have hbz:=bz3.frm zeq.fr (by omega)
     have hbzc:=hbz.cell
     have hbzf:=hbz.frozen
     have hrdk:=zeq.old hrd3 (by omega)
     by_cases hlt:k<m
     ·obtain⟨ad,xk,hae,_,_,hxk,hck⟩:=hrdk.str hlt
      obtain rfl:=Option.some.inj hae
      rw [zP] at hck
      have hbk:=za (Hlx.out xk (List.mem_of_getElem? hxk.out))
      clear hbzc hbzf
      go_wp2_with fail
      refine (spec_l2Parse (s:=xk) (by have:=hbk.out;omega)).mono ?_
      rintro e w4 ⟨ed,ok3,rfl,hx4⟩
      have hacc4:=zeq.ext (hx4.alloc (.cells #[.int .i64 ed.fr,.int .i64 ed.le,.int .i64 ed.ta] 116))
      have bed:=Blk.new w4 116 #[.int .i64 ed.fr,.int .i64 ed.le,.int .i64 ed.ta]
      have hbz4:=hbz.ext (hx4.alloc (.cells #[.int .i64 ed.fr,.int .i64 ed.le,.int .i64 ed.ta] 116))
      clear hG
      cases ok3
      ·have hz4:=hbz4.cell
       have hzf:=hbz4.frozen
       go_wp2_with fail
       generalize w4.alloc (.cells #[.int .i64 ed.fr,.int .i64 ed.le,.int .i64 ed.ta] 116)=wq at *
       exact yV03a8
      ·have hG4:=hacc4.blk.cell
       go_wp2_with (at_builtin;refine wpList_push2 w3 (w4.alloc (.cells #[.int .i64 ed.fr,.int .i64 ed.le,.int .i64 ed.ta] 116)) rfl _ _ _ rfl 116 _ 3 24 Tryd.underlying37 zN rfl (by decide) v es.length (zd es) _ _ rfl (by first|rfl|simp [go_sem]) hacc4.fr.size hacc4.own rfl (by simp [Value.oneCell']) (by unfold maxLen;omega) (by omega) ?_;intro g cap w5 zew hg5 hat5 hlt5;obtain⟨h1,h2,h3⟩:=hacc4.push (e:=ed) (W':=w5) zew hg5 hat5;have h1':=h1.out)
       go_roundw
       case rel=>exact⟨k+1,_,_,by omega,by omega,by go_num,h3,by simp;omega⟩
       case measure=>simp [intOf];omega
     ·obtain rfl:m=k:=by omega
      obtain⟨A,n,c,rfl⟩:=zeq.form
      obtain⟨rfl,hsys⟩:=zeq.reads
      clear hbzc hbzf
      go_wp2_with fail
      refine (zcC (s:=⟨a,st,es⟩) hsys (by omega)).mono ?_
      rintro e w4 ⟨tx,rfl,htx,hx4⟩
      have hacc4:=zeq.ext hx4
      have hbz4:=hbz.ext hx4
      have hz4:=hbz4.cell
      have hzf:=hbz4.frozen
      have hG4:=hacc4.blk.cell
      cases hne:tx.toList==x.toList
      ·go_wp2_with fail
       exact yV03a8
      ·have hval:zk (⟨a,st,es⟩:Sys)=true:=by
        cases hv:zk (⟨a,st,es⟩:Sys)
        ·exfalso
         have h0:=htx hv
         have hxe:x.size=0:=str_empty (by simpa using hne) h0
         omega
        ·rfl
       have hgood:=zdQ hval
       have hcap:=zbR hacc4.own
       obtain⟨g1,g2,g3⟩:=hacc4.fin (Z:=w.heap.size) (Nat.le_refl _) (by omega) (.int .i64 a) (.int .i64 st) (.slice A es.length c)
       have Hfin:=za (show zdS R M 1001 w (.returned (.tuple #[.agg #[.int .i64 a,.int .i64 st,.slice A es.length c],.bool true])) _ from ⟨⟨a,st,es⟩,A,es.length,c,true,rfl,g1,⟨fun _=>hgood,hgood.fair⟩,by omega,g2,g3⟩)
       clear g1 g2 g3 hgood hval
       go_wp2_with fail
       exact bodyPost_ret (v:=.tuple #[.agg #[.int .i64 a,.int .i64 st,.slice A es.length c],.bool true]) (by simp [results,Tryd.results94,go_sem,hz4]) rfl Hfin.out
def RetG1 (R M L:Nat) (w:World) (e:Ending) (w':World):Prop:=
 ∃ (s:Sys) (A:Option Addr) (n c:Nat),e=.returned (.agg #[.int .i64 s.al,.int .i64 s.st,.slice A n c])∧zK w' R A n s∧Good s∧n≤L∧(1≤n∧n≤c)∧Rd w' R M∧Dr R w w'
theorem zdP {R M:Nat} {w:World}(h:Rd w R M)(hM:M≤900000000) :
  Calls Tryd.prog 60 #[.pointer (some ⟨R,0,none⟩)] w (RetG1 R (M+100) 100 w):=by
 have hRl:=h.lt
 have hfull:Ext w ((w.alloc (.cells #[.int .i64 0,.int .i64 0,.slice none 0 0] 39)).alloc (.cells #[.int .i64 3,.int .i64 16,.slice none 0 0] 39)):=((Ext.refl _).alloc _).alloc _
 obtain⟨bz,bG⟩:=zv (Ext.refl ((w.alloc (.cells #[.int .i64 0,.int .i64 0,.slice none 0 0] 39)).alloc (.cells #[.int .i64 3,.int .i64 16,.slice none 0 0] 39)))
 have hsz:((w.alloc (.cells #[.int .i64 0,.int .i64 0,.slice none 0 0] 39)).alloc (.cells #[.int .i64 3,.int .i64 16,.slice none 0 0] 39)).heap.size=w.heap.size+2:=by simp
 have Hfull:=za hfull
 have Hsz:=za hsz
 have Hbz:=za bz
 have HbG:=za bG
 clear hfull hsz bz bG
 go_enter Tryd.func60,Tryd.ntmps60
 go_wp2_with fail
 generalize (w.alloc (.cells #[.int .i64 0,.int .i64 0,.slice none 0 0] 39)).alloc (.cells #[.int .i64 3,.int .i64 16,.slice none 0 0] 39)=w1 at *
 have hw1:=Hfull.out
 have zeq:Acc w w1 w1 R (w.heap.size+1) M 3 16 (.slice none 0 0) []:=⟨HbG.out,World.ownsRow_nil _ _ _ _,h.ext hw1,hw1.dr,Frm.refl _ _,hRl,hw1.size,by omega⟩
 have hz1:w.heap.size+2≤w1.heap.size:=by rw [Hsz.out];exact Nat.le_refl _
 go_loopw [4] (fun i wr=>∃ k:Nat,k≤16∧i=.int .i64 k∧∃ (v:Value) (es:List Edg),Acc w w1 wr R (w.heap.size+1) (M+k*2) 3 16 v es∧es.length≤k*2∧Hid (Few 16 es)∧k≤es.length) (fun i _=>16 - (intOf i).toNat)
 case atStart=>exact⟨0,Nat.zero_le _,rfl,_,[],zeq.more (Nat.le_add_right _ _),Nat.zero_le _,zdb 16,Nat.le_refl _⟩
 case round =>
  clear zeq
  obtain⟨k,hk,rfl,v,es,zeq,hel,hfew,hke⟩:=hrel
  have cG0:=zeq.blk.cell
  by_cases hlt:k<16
  ·go_wp2_with fail
   clear cG0
   have cG:∀ W,Ext wr W→∀ q,W.cell? ⟨w.heap.size+1,q,none⟩=#[Value.int .i64 3,.int .i64 16,v][q]?:=fun W hW=>(zeq.blk.ext hW).cell
   have tm:((k:Int)+1).tmod 16=(((k+1) % 16:Nat):Int):=by rw [Int.tmod_eq_emod_of_nonneg (by omega)];omega
   have tw:IntKind.i64.wrap ((k:Int)+1)=(k:Int)+1:=IntWalk.i64_in _ (by omega)
   refine tR (fun X=>Ext wr X) [10,12] (Ord.of [0,1,2,3,4,5,6,7,8,9,10,11,12]) ?_
   refine tQ ?_
   refine zc fun K hK=>?_;go_simp
   refine hK.out _ _ ((Ext.refl _).drew.alloc _) ?_
   refine pT ?_
   refine zi fun K hK=>?_
   refine zab w1 wr.drew _ _ _ rfl 116 _ 3 24 Tryd.underlying37 zN rfl (by decide) v es.length (zd es) _ _ rfl rfl zeq.fr.size zeq.own rfl (by simp [Value.oneCell']) (by unfold maxLen;omega) (by omega) ?_
   intro g cap w3 zev hg3 hat3 hlt3
   refine hK.out _ _ ?_
   refine pT ?_
   refine tQ ?_
   obtain⟨h1,h2,h3⟩:=(zeq.ext ((Ext.refl _).drew)).push (e:=⟨k,0,((k+1) % 16:Nat)⟩) (W':=w3) zev hg3 hat3
   have h1':=h1.out
   have hfew3:=za (zaT (e:=⟨k,0,((k+1) % 16:Nat)⟩) hfew.out (by simp;omega))
   refine zi fun K hK=>?_
   go_simp
   refine hK.out _ _ ?_
   refine zr ?_
   have hel3:(es++[(⟨k,0,((k+1) % 16:Nat)⟩:Edg)]).length≤k*2+1:=by simp;omega
   have hke3:k+1≤(es++[(⟨k,0,((k+1) % 16:Nat)⟩:Edg)]).length:=by simp;omega
   clear h1' h1 h2 zeq hfew hel hke tm tw cG zev hg3 hat3 hlt3
   generalize es++[(⟨k,0,((k+1) % 16:Nat)⟩:Edg)]=es3 at *
   generalize w3.setCell ⟨w.heap.size+1,2,none⟩ (.slice (some ⟨g,0,none⟩) (es.length+1) cap)=w4 at *
   generalize Value.slice (some ⟨g,0,none⟩) (es.length+1) cap=v3 at *
   go_wp2_with fail
   refine (zg h3.rd (by omega)).mono ?_
   rintro e w5 ⟨y,rfl,_,_,hr5,hd5⟩
   have hacc5:=h3.drawn hd5 hr5
   clear h3
   by_cases hy:y=0
   ·subst hy
    have cG:∀ W,Dr R w5 W→∀ q,W.cell? ⟨w.heap.size+1,q,none⟩=#[Value.int .i64 3,.int .i64 16,v3][q]?:=fun W hW=>(hacc5.blk.dr hW (by omega)).cell
    go_wp2_with fail
    refine tR (fun X=>Dr R w5 X) [9,11] (Ord.of [0,1,2,3,4,5,6,7,8,9,10,11]) ?_
    refine tQ ?_
    refine zc fun K hK=>?_;go_simp
    refine (zg (n:=16) (hacc5.rd.ext ((Ext.refl _).drew)) (by omega)).mono ?_
    rintro e w6 ⟨z,rfl,hz16,_,hr6,hd6⟩
    have hz16':=hz16 (by omega)
    have hd56:Dr R w5 w6:=((Dr.refl R w5).drew).trans hd6
    have hacc6:=hacc5.drawn hd56 hr6
    refine hK.out _ _ hd56 ?_
    refine pT ?_
    refine tQ ?_
    refine zc fun K hK=>?_;go_simp
    refine hK.out _ _ (hd56.alloc _) ?_
    refine pT ?_
    refine zi fun K hK=>?_
    refine zab w1 w6 _ _ _ rfl 116 _ 3 24 Tryd.underlying37 zN rfl (by decide) v3 es3.length (zd es3) _ _ rfl rfl hacc6.fr.size hacc6.own rfl (by simp [Value.oneCell']) (by unfold maxLen;omega) (by omega) ?_
    intro g7 cap7 w7 hown7 hg7 hat7 hlt7
    refine hK.out _ _ ?_
    refine pT ?_
    refine tQ ?_
    obtain⟨h1,h2,h7⟩:=hacc6.push (e:=⟨k,1,z⟩) (W':=w7) hown7 hg7 hat7
    have h1':=h1.out
    have hfew7:=za (zaT (e:=⟨k,1,z⟩) hfew3.out (by simp;omega))
    have hel7:(es3++[(⟨k,1,z⟩:Edg)]).length≤(k+1)*2:=by simp;omega
    refine zi fun K hK=>?_
    go_simp
    refine hK.out _ _ ?_
    refine zr ?_
    go_wp2_with fail
    go_roundw
    case rel=>exact⟨k+1,by omega,by go_num,_,_,h7.more (by omega),hel7,hfew7,by simp;omega⟩
    case measure=>simp [intOf];omega
   ·have hy':((y:Int)==0)=false:=by simp;omega
    go_wp2_with fail
    go_roundw
    case rel=>exact⟨k+1,by omega,by go_num,_,_,hacc5.more (by omega),by omega,hfew3,hke3⟩
    case measure=>simp [intOf];omega
  ·obtain rfl:k=16:=by omega
   obtain⟨A,n,c,rfl⟩:=zeq.form
   obtain⟨rfl,_⟩:=zeq.reads
   have hcap:=za (zbR zeq.own)
   have bz2:=Hbz.out.frm zeq.fr (by omega)
   have cz:=bz2.cell
   have fz:=bz2.frozen
   obtain⟨f1,f2,f3⟩:=zeq.fin (Z:=w.heap.size) (Nat.le_refl _) (by omega) (.int .i64 3) (.int .i64 16) (.slice A es.length c)
   have Hfin:=za (show RetG1 R (M+100) 100 w (.returned (.agg #[.int .i64 3,.int .i64 16,.slice A es.length c])) _ from ⟨⟨3,16,es⟩,A,es.length,c,rfl,f1,⟨3,16,rfl,by omega,rfl,by omega,by omega,hfew.out⟩,by omega,⟨by omega,hcap.out⟩,f2.more (by omega),f3⟩)
   clear f1 f2 f3
   go_wp2_with fail
   exact bodyPost_ret (v:=.agg #[.int .i64 3,.int .i64 16,.slice A es.length c]) (by simp [results,Tryd.results60,go_sem,cz]) rfl Hfin.out
def strOf:Value→ByteArray
 |.string s=>s
 |_=>⟨#[]⟩
def RetTexts (L:Nat) (w:World) (e:Ending) (w':World):Prop:=∃ (A:Option Addr) (n c:Nat) (l:List ByteArray),e=.returned (.slice A n c)∧0<n∧w'.ownsRow w.heap.size 9 1 (.slice A n c) n (strs l)∧(∀ x∈l,x.size≤L)∧Ext w w'
theorem texts_lit (w:World) {us:Array Value} {n:Nat}(hu:strs (us.toList.map strOf)=us.toList)(hn:us.size=n)(h:n≤1000):(w.alloc (.cells us 9)).ownsRow w.heap.size 9 1 (.slice (some ⟨w.heap.size,0,none⟩) n n) n (strs (us.toList.map strOf)):=by
 rw [hu]
 exact World.ownsRow_lit w us n (Nat.le_refl _) (by unfold maxLen;omega) (by simpa using hn)
theorem spec_l2Texts {w:World}:Calls Tryd.prog 96 #[] w (RetTexts 100 w):=by
 go_enter Tryd.func96,Tryd.ntmps96
 go_wp2
 go_ret
 exact⟨_,_,_,_,rfl,by decide,texts_lit w rfl rfl (by omega),by decide +kernel,(Ext.refl _).alloc _⟩
theorem reads_ints {w w':World} {us:Array Value} {n:Nat} {e:TypeId} (l:List Int)(hu:us.toList=ints l)(hn:us.size=n)(hx:Ext (w.alloc (.cells us e)) w')(h63:n≤1000):Reads w' w.heap.size (w.heap.size+1) 1 (some ⟨w.heap.size,0,none⟩) n (ints l):=
 ⟨by rw [← hu];simpa using hn,by omega,fun _=>⟨_,rfl,Nat.le_refl _,by simp,fun j u hj=>by
  have:=(zaH hx).cell j
  rw [zP,Nat.zero_add,this]
  rw [← hu] at hj
  simpa using hj⟩⟩
theorem zae {R M:Nat} {w:World} (l:List Int) (n:Nat) (us:Array Value)(hu:us.toList=ints l)(hn:us.size=n)(h0:0<n)(h63:n≤1000)(h:Rd w R M)(hM:M≤1000000000) :
  Calls Tryd.prog 90 #[.pointer (some ⟨R,0,none⟩),.slice (some ⟨w.heap.size,0,none⟩) n n] (w.alloc (.cells us 3)) (RetNum R M l (w.alloc (.cells us 3))):=
 l19Rd_num (h.ext ((Ext.refl _).alloc _)) hM (reads_ints l hu hn (Ext.refl _) h63) h.lt h0
theorem zeg {R M L n c Z:Nat} {A:Option Addr} {s:Sys} {w W:World} {cs:Array Value}(hs:zK W R A n s)(hg:Good s)(hn:n≤L∧n≤c)(hr:Rd W R M)(hd:Dr R w W)(hB:Blk W Z 39 cs)(hR:R<w.heap.size)(hZ:w.heap.size≤Z) :
  RetG R M L w (.returned (.agg #[.int .i64 s.al,.int .i64 s.st,.slice A n c])) (((W.setCell ⟨Z,0,none⟩ (.int .i64 s.al)).setCell ⟨Z,1,none⟩ (.int .i64 s.st)).setCell ⟨Z,2,none⟩ (.slice A n c)):=by
 have hf:=zaj W Z (.int .i64 s.al) (.int .i64 s.st) (.slice A n c)
 exact⟨s,A,n,c,rfl,hs.far hB (by decide) hf,hg,hn,hr.frm hf (fun k h1 h2=>by omega),((hd.setNew (p:=⟨Z,0,none⟩) hZ _).setNew (p:=⟨Z,1,none⟩) hZ _).setNew (p:=⟨Z,2,none⟩) hZ _⟩
theorem yV03a2 {P:Prop}(h:P:=by
 go_wp2_with fail
 refine (zae [3,2,4,1,5] 5 #[.int .i64 3,.int .i64 2,.int .i64 4,.int .i64 1,.int .i64 5] rfl rfl (by omega) (by omega) hr6 (by omega)).mono ?_
 rintro e w7 ⟨st,hst,rfl,hr7,hd7⟩
 have hw7:=(hw6.ext ((Ext.refl _).alloc _)).trans hd7
 have bz7:=(bz6.ext ((Ext.refl _).alloc _)).dr hd7 (by omega)
 go_wp2_with fail
 refine (zae [3,2,4,6] 4 #[.int .i64 3,.int .i64 2,.int .i64 4,.int .i64 6] rfl rfl (by omega) (by omega) hr7 (by omega)).mono ?_
 rintro e w8 ⟨fw,_,rfl,hr8,hd8⟩
 have hw8:=(hw7.ext ((Ext.refl _).alloc _)).trans hd8
 have bz8:=(bz7.ext ((Ext.refl _).alloc _)).dr hd8 (by omega)
 obtain⟨a,rfl,ha⟩:∃ a:Nat,al=a∧a<64:=⟨al.toNat,by simp at hal;omega,by simp at hal;omega⟩
 obtain⟨p,rfl,hp1,hp⟩:∃ p:Nat,st=p∧1≤p∧p≤16:=⟨st.toNat,by simp at hst;omega,by simp at hst;omega,by simp at hst;omega⟩
 clear hal hst
 go_wp2_with fail
 refine (zbq hr8 (by omega) ha hp1 hp).mono ?_
 rintro e w9 ⟨s9,A9,n9,c9,rfl,hs9,hg9,hn9,hr9,hd9⟩
 have bz9:=bz8.dr hd9 (by omega)
 have hfin9:=za (zeg (R:=R) (M:=M+30000) (L:=20000) (c:=c9) hs9 hg9 hn9 (hr9.more (by omega)) (hw8.trans hd9) bz9 hRl (Nat.le_refl _))
 have cz9:=bz9.cell
 have fz9:=bz9.frozen
 go_wp2_with fail
 exact bodyPost_ret (v:=.agg #[.int .i64 s9.al,.int .i64 s9.st,.slice A9 n9 c9]) (by simp [results,Tryd.results56,go_sem,cz9]) rfl hfin9.out
 ):P:=h
theorem zbV {R M:Nat} {w:World}(h:Rd w R M)(hM:M≤800000000) :
  Calls Tryd.prog 56 #[.pointer (some ⟨R,0,none⟩)] w (RetG R (M+30000) 20000 w):=by
 have hRl:=h.lt
 have hx0:=(Ext.refl w).alloc (.cells #[.int .i64 0,.int .i64 0,.slice none 0 0] 39)
 have bz:=Blk.new w 39 #[.int .i64 0,.int .i64 0,.slice none 0 0]
 go_enter Tryd.func56,Tryd.ntmps56
 go_wp2_with fail
 refine (zg (h.ext hx0) (by omega)).mono ?_
 rintro e w1 ⟨y,rfl,_,_,hr1,hd1⟩
 have hw1:=hx0.dr.trans hd1
 have bz1:=bz.dr hd1 (by omega)
 have hz1:=bz1.lt
 clear bz
 by_cases hy:y=0
 ·subst hy
  go_wp2_with fail
  refine (spec_l2Texts).mono ?_
  rintro e w2 ⟨A,n,c,l,rfl,hn,zep,hl,hx2⟩
  go_wp2_with fail
  refine (l19Rd_of (hr1.ext hx2) (by omega) (Reads.of_own zep) (by omega) hn).mono ?_
  rintro e w3 ⟨x,hx,rfl,hr3,hd3⟩
  have hxs:=hl x hx
  go_wp2_with fail
  refine (zcP hr3 (by omega)).mono ?_
  rintro e w4 ⟨s,B,m,d,ok,rfl,hs,⟨hg,-⟩,hm,hr4,hd4⟩
  have hw4:Dr R w w4:=((hw1.ext hx2).trans hd3).trans hd4
  have bz4:=((bz1.ext hx2).dr hd3 (by omega)).dr hd4 (by omega)
  have hx5:=(Ext.refl w4).alloc (.cells #[.int .i64 s.al,.int .i64 s.st,.slice B m d] 39)
  have b5:=Blk.new w4 39 #[.int .i64 s.al,.int .i64 s.st,.slice B m d]
  cases ok
  ·have hr5:=hr4.ext hx5
   have hw5:=hw4.ext hx5
   have bz5:=bz4.ext hx5
   clear b5 hx5 hs hg
   go_wp2_with fail
   have C6:=(zae [3,6,7,5,1,0,12] 7 #[.int .i64 3,.int .i64 6,.int .i64 7,.int .i64 5,.int .i64 1,.int .i64 0,.int .i64 12] rfl rfl (by omega) (by omega) hr5 (by omega))
   simp only [World.size_alloc] at C6
   refine C6.mono ?_
   rintro e w6 ⟨al,hal,rfl,hr6,hd6⟩
   have hw6:=(hw5.ext ((Ext.refl _).alloc _)).trans hd6
   have bz6:=(bz5.ext ((Ext.refl _).alloc _)).dr hd6 (by omega)
   exact yV03a2
  ·have hgood:=hg rfl
   have c5:=b5.cell
   have b45:=bz4.ext hx5
   have c45:=b45.cell
   have f45:=b45.frozen
   go_wp2_with fail
   generalize w4.alloc (.cells #[.int .i64 s.al,.int .i64 s.st,.slice B m d] 39)=w5 at *
   have zes:=zeg (R:=R) (M:=M+30000) (L:=20000) (c:=d) (hs.ext hx5) hgood (by omega) ((hr4.more (by omega)).ext hx5) (hw4.ext hx5) b45 hRl (Nat.le_refl _)
   exact bodyPost_ret (v:=.agg #[.int .i64 s.al,.int .i64 s.st,.slice B m d]) (by simp [results,Tryd.results56,go_sem,c45]) rfl zes
 ·have hy':((y:Int)==0)=false:=(by rw [beq_eq_false_iff_ne];omega)
  go_wp2_with fail
  refine (zae [3,6,7,5,1,0,12] 7 #[.int .i64 3,.int .i64 6,.int .i64 7,.int .i64 5,.int .i64 1,.int .i64 0,.int .i64 12] rfl rfl (by omega) (by omega) hr1 (by omega)).mono ?_
  rintro e w6 ⟨al,hal,rfl,hr6,hd6⟩
  have hw6:=(hw1.ext ((Ext.refl _).alloc _)).trans hd6
  have bz6:=(bz1.ext ((Ext.refl _).alloc _)).dr hd6 (by omega)
  exact yV03a2
def zct (b:Aut):Prop:=∃ a p:Nat,a<64∧1≤p∧p≤16∧shA a p (letters a 6).length b
theorem zcb.mono {R M N:Nat} {sh sh':Aut→Prop} {w w0 w':World} {e:Ending}(h:zcb R M sh w e w')(hd:Dr R w0 w)(hM:M≤N)(hs:∀ b,sh b→sh' b):zcb R N sh' w0 e w':=by
 obtain⟨b,A,n,c,A',n',c',he,ho,hsh,hr,hd'⟩:=h
 exact⟨b,A,n,c,A',n',c',he,ho.less hd.size,za (hs b hsh.out),hr.more hM,hd.trans hd'⟩
theorem zdV {R M N Z n c n' c':Nat} {A A':Option Addr} {b:Aut} {sh:Aut→Prop} {w w0 W:World} {cs:Array Value} {t:TypeId}(hx:Ext w w0)(ho:zX W w0.heap.size A n c A' n' c' b)(hsh:sh b)(hr:Rd W R M)(hd:Dr R w0 W) (bz:Blk w0 Z t cs)(hc:cs.size=3)(hR:R<w.heap.size)(hZ:w.heap.size≤Z)(hM:M≤N) :
  Hid (zcb R N sh w (.returned (.agg #[.int .i64 b.al,.slice A n c,.slice A' n' c'])) (((W.setCell ⟨Z,0,none⟩ (.int .i64 b.al)).setCell ⟨Z,1,none⟩ (.slice A n c)).setCell ⟨Z,2,none⟩ (.slice A' n' c'))) ∧
  Blk (((W.setCell ⟨Z,0,none⟩ (.int .i64 b.al)).setCell ⟨Z,1,none⟩ (.slice A n c)).setCell ⟨Z,2,none⟩ (.slice A' n' c')) Z t #[.int .i64 b.al,.slice A n c,.slice A' n' c']:=by
 have hz:=bz.lt
 have hf:=zak W Z (.int .i64 b.al) (.slice A n c) (.slice A' n' c')
 refine⟨za ⟨b,A,n,c,A',n',c',rfl,(ho.keep hf (fun b h1 e=>by omega)).less hx.size,za hsh,(hr.more hM).frm hf (fun k hk e=>by omega),?_⟩,zas (bz.dr hd (by omega)) hc _ _ _⟩
 exact (((hx.dr.trans hd).setNew (p:=⟨Z,0,none⟩) hZ _).setNew (p:=⟨Z,1,none⟩) hZ _).setNew (p:=⟨Z,2,none⟩) hZ _
theorem spec_l1Some {R M:Nat} {w:World}(h:Rd w R M)(hM:M≤900000000) :
  Calls Tryd.prog 97 #[.pointer (some ⟨R,0,none⟩)] w (fun e w'=>∃ x:Nat,x<64∧e=.returned (.int .i64 x)∧Rd w' R (M+1)∧Dr R w w'):=by
 go_enter Tryd.func97,Tryd.ntmps97
 go_wp2_with fail
 refine (zae [3,7,1,5,0,6,63,2,21] 9 #[.int .i64 3,.int .i64 7,.int .i64 1,.int .i64 5,.int .i64 0,.int .i64 6,.int .i64 63,.int .i64 2,.int .i64 21] rfl rfl (by omega) (by omega) h (by omega)).mono ?_
 rintro e w1 ⟨x,hx,rfl,hr1,hd1⟩
 obtain⟨y,hy,rfl⟩:∃ y:Nat,y<64∧x=(y:Int):=⟨x.toNat,by simp at hx;omega,by simp at hx;omega⟩
 clear hx
 go_wp2_with fail
 go_ret
 exact⟨y,hy,rfl,hr1,((Dr.refl R w).alloc _).trans hd1⟩
theorem yV03a5 {P:Prop}(h:P:=by
 intro e w4 hret
 obtain⟨b,A,n,c,A',n',c',rfl,zep,hsh,hr4,hd4⟩:=hret.mono (N:=M+500) (sh':=zct) hd13 (by omega) (fun b hb=>⟨a,p,ha,hp1,by omega,hb⟩)
 obtain⟨f1,f2⟩:=zdV (N:=M+500) (sh:=zct) hxz zep hsh.out hr4 hd4 bz rfl hRl (Nat.le_refl _) (Nat.le_refl _)
 have bz5:=bz.dr hd4 (by omega)
 have cZ:=bz5.cell
 have fZ:=bz5.frozen
 go_wp2_with fail
 have cf:=f2.cell
 exact bodyPost_ret (v:=.agg #[.int .i64 b.al,.slice A n c,.slice A' n' c']) (by simp [results,Tryd.results99,go_sem,cf]) rfl f1.out
 ):P:=h
theorem spec_l3Over {R M a:Nat} {w:World}(h:Rd w R M)(hM:M≤800000000)(ha:a<64) :
  Calls Tryd.prog 99 #[.pointer (some ⟨R,0,none⟩),.int .i64 a] w (zcb R (M+500) zct w):=by
 have hRl:=h.lt
 go_enter Tryd.func99,Tryd.ntmps99
 have hxz:=(Ext.refl w).alloc (.cells #[.int .i64 0,.slice none 0 0,.slice none 0 0] 30)
 have bz:=Blk.new w 30 #[.int .i64 0,.slice none 0 0,.slice none 0 0]
 go_wp2_with fail
 generalize w.alloc (.cells #[.int .i64 0,.slice none 0 0,.slice none 0 0] 30)=w1 at *
 refine (zg (h.ext hxz) (by omega)).mono ?_
 rintro e w2 ⟨y,rfl,-,-,hr2,hd2⟩
 by_cases hy:y=0
 ·subst hy
  go_wp2_with fail
  refine (zae [3,2,4,1] 4 #[.int .i64 3,.int .i64 2,.int .i64 4,.int .i64 1] rfl rfl (by omega) (by omega) hr2 (by omega)).mono ?_
  rintro e w3 ⟨x,hx,rfl,hr3,hd3⟩
  obtain⟨p,hp1,hp2,rfl⟩:∃ y:Nat,1≤y∧y≤4∧x=(y:Int):=⟨x.toNat,by simp at hx;omega,by simp at hx;omega,by simp at hx;omega⟩
  clear hx
  have hd13:=(hd2.alloc _).trans hd3
  go_wp2_with fail
  refine (zdq hr3 (by omega) ha hp1 (by omega)).mono ?_
  exact yV03a5
 ·have hy':((y:Int)==0)=false:=by simp;omega
  go_wp2_with fail
  refine (zae [2,3,1,4,5] 5 #[.int .i64 2,.int .i64 3,.int .i64 1,.int .i64 4,.int .i64 5] rfl rfl (by omega) (by omega) hr2 (by omega)).mono ?_
  rintro e w3 ⟨x,hx,rfl,hr3,hd3⟩
  obtain⟨p,hp1,hp2,rfl⟩:∃ y:Nat,1≤y∧y≤5∧x=(y:Int):=⟨x.toNat,by simp at hx;omega,by simp at hx;omega,by simp at hx;omega⟩
  clear hx
  have hd13:=(hd2.alloc _).trans hd3
  go_wp2_with fail
  refine (zcp hr3 (by omega) ha (by omega)).mono ?_
  exact yV03a5
section
variable {w0 W W':World} {R G M N:Nat} {al:Int} {v vA:Value} {rows:List Value} {ls:List (List Int)} {acc:List Bool}
theorem zax.setAl (h:zax w0 W R G M al v rows ls vA acc) (x:Int):zax w0 (W.setCell ⟨G,0,none⟩ (.int .i64 x)) R G M x v rows ls vA acc:=by
 have hRG:=h.hR;have hGG:=h.hG
 have hf:=Frm.setCell W G 0 (.int .i64 x)
 refine⟨by simpa using h.blk.set_ 0 _,zj h.nx hf (fun b hb hS=>zo h.nx h.blk (by decide) hb hS),h.rows.frm hf (fun i r b hr hb hS=>?_),zj h.acc hf (fun b hb hS=>zo h.acc h.blk (by decide) hb hS),h.rd.frm hf (fun k hk e=>by omega),h.dr.setNew (p:=⟨G,0,none⟩) hGG _,hRG,hGG⟩
 obtain⟨l',_,ho⟩:=h.rows.row hr
 exact zo ho h.blk (by decide) hb hS
theorem zax.setNext (h:zax w0 W R G M al v rows ls vA acc) {v':Value}(ho:W.ownsRow w0.heap.size 62 1 v' 0 []):zax w0 (W.setCell ⟨G,1,none⟩ v') R G M al v' [] [] vA acc:=by
 have hRG:=h.hR;have hGG:=h.hG
 have hf:=Frm.setCell W G 1 v'
 exact⟨by simpa using h.blk.set_ 1 _,zj ho hf (fun b hb hS=>zo ho h.blk (by decide) hb hS),zq.nil _ _,zj h.acc hf (fun b hb hS=>zo h.acc h.blk (by decide) hb hS),h.rd.frm hf (fun k hk e=>by omega),h.dr.setNew (p:=⟨G,1,none⟩) hGG _,hRG,hGG⟩
theorem zax.setMarks (h:zax w0 W R G M al v rows ls vA acc) {v':Value}(ho:W.ownsRow w0.heap.size 4 1 v' 0 []):zax w0 (W.setCell ⟨G,2,none⟩ v') R G M al v rows ls v' []:=by
 have hRG:=h.hR;have hGG:=h.hG
 have hf:=Frm.setCell W G 2 v'
 refine⟨by simpa using h.blk.set_ 2 _,zj h.nx hf (fun b hb hS=>zo h.nx h.blk (by decide) hb hS),h.rows.frm hf (fun i r b hr hb hS=>?_),zj ho hf (fun b hb hS=>zo ho h.blk (by decide) hb hS),h.rd.frm hf (fun k hk e=>by omega),h.dr.setNew (p:=⟨G,2,none⟩) hGG _,hRG,hGG⟩
 obtain⟨l',_,ho⟩:=h.rows.row hr
 exact zo ho h.blk (by decide) hb hS
theorem zax.growRow {i:Nat} {row:Value} {l:List Int} {x:Int} {g cap gN cN nN:Nat}(h:zax w0 W R G M al (.slice (some ⟨gN,0,none⟩) nN cN) rows ls vA acc)(hn:nN=ls.length)(hr:rows[i]?=some row)(hl:ls[i]?=some l)
  (zep:W'.ownsRow w0.heap.size 3 1 (.slice (some ⟨g,0,none⟩) (l.length+1) cap) (l.length+1) (ints l++[.int .i64 x])) (hg:W.grownBy W' row.ownBlock) (hat:row.ownBlock=some g∨g=W.heap.size+1) :
  (∀ u,W.cell? ⟨G,u,none⟩=W'.cell? ⟨G,u,none⟩)∧Hid (W'.cell? ⟨gN,i,none⟩=some row)∧W'.frozen? ⟨gN,i,none⟩=false ∧
  zax w0 (W'.setCell ⟨gN,i,none⟩ (.slice (some ⟨g,0,none⟩) (l.length+1) cap)) R G M al (.slice (some ⟨gN,0,none⟩) nN cN) (rows.set i (.slice (some ⟨g,0,none⟩) (l.length+1) cap)) (ls.set i (l++[x])) vA acc:=by
 subst hn
 have hRG:=h.hR;have hGG:=h.hG
 have hi:i<ls.length:=(List.getElem?_eq_some_iff.1 hl).1
 have ho:=h.rows.2.1 i _ l hr hl
 have hfr:Frm (fun k=>row.ownBlock=some k) W W':=Frm.of_grown hg
 obtain⟨hdr,hrd⟩:=h.grown ho hg
 have hB:Blk W' G 30 #[.int .i64 al,.slice (some ⟨gN,0,none⟩) ls.length cN,vA]:=h.blk.frm hfr (fun e=>zo ho h.blk (by decide) e rfl)
 have hnx:W'.ownsRow w0.heap.size 62 1 (.slice (some ⟨gN,0,none⟩) ls.length cN) ls.length rows:=zj h.nx hfr (fun b hb hS=>zZ h.nx ho (by decide) hb hS)
 have zeq:W'.ownsRow w0.heap.size 4 1 vA acc.length (zL acc):=zj h.acc hfr (fun b hb hS=>zZ h.acc ho (by decide) hb hS)
 have hgN:=(hnx.lt gN rfl).1
 have hlen:=h.rows.1
 have fresh:∀ (j:Nat) (r:Value) (b:Nat),j≠i→rows[j]?=some r→r.ownBlock=some b→b≠g:=fun j r b hji hj hb e=>by
  subst e
  rcases hat with h1|h1
  ·exact h.rows.2.2 j i r row b hj hr hji hb h1
  ·have:=h.low j r b hj hb
   omega
 have hrows:zq W' w0.heap.size (rows.set i (.slice (some ⟨g,0,none⟩) (l.length+1) cap)) (ls.set i (l++[x])):=by
  refine⟨by simp [hlen],fun j r m hj hm=>?_,fun j j' r r' b hj hj' hne hb=>?_⟩
  ·by_cases hji:i=j
   ·subst hji
    rw [List.getElem?_set_self (by omega)] at hj
    rw [List.getElem?_set_self hi] at hm
    obtain rfl:=Option.some.inj hj
    obtain rfl:=Option.some.inj hm
    simpa [ints] using zep
   ·rw [List.getElem?_set_ne hji] at hj hm
    exact zj (h.rows.2.1 j r m hj hm) hfr (fun b hb hS=>h.rows.2.2 j i r row b hj hr (fun e=>hji e.symm) hb hS)
  ·by_cases hji:i=j
   ·subst hji
    rw [List.getElem?_set_self (by omega)] at hj
    obtain rfl:=Option.some.inj hj
    rw [List.getElem?_set_ne hne] at hj'
    have hbg:g=b:=by simpa [Value.ownBlock] using hb
    subst hbg
    exact fun hc=>fresh j' r' _ (fun e=>hne e.symm) hj' hc rfl
   ·rw [List.getElem?_set_ne hji] at hj
    by_cases hji':i=j'
    ·subst hji'
     rw [List.getElem?_set_self (by omega)] at hj'
     obtain rfl:=Option.some.inj hj'
     intro hc
     have hbg:g=b:=by simpa [Value.ownBlock] using hc
     exact fresh j r b (fun e=>hji e.symm) hj hb hbg.symm
    ·rw [List.getElem?_set_ne hji'] at hj'
     exact h.rows.2.2 j j' r r' b hj hj' hne hb
 have hset:=Frm.setCell W' gN i (.slice (some ⟨g,0,none⟩) (l.length+1) cap)
 refine⟨fun u=>by rw [h.blk.cell,hB.cell],za (by rw [hnx.cellAt i (by omega),hr]),hnx.frozenAt i,⟨hB.frm hset (fun e=>zo hnx hB (by decide) rfl e.symm),?_,?_,zj zeq hset (fun b hb hS=>?_),hrd.frm hset (fun k hk e=>by omega),hdr.setNew (p:=⟨gN,i,none⟩) hgN _,hRG,hGG⟩⟩
 ·rw [List.length_set]
  exact (hnx.stored i _).1
 ·refine hrows.frm hset (fun j r b hj hb hS=>?_)
  obtain⟨l',_,ho'⟩:=hrows.row hj
  subst hS
  exact zZ ho' hnx (by decide) hb rfl
 ·subst hS
  exact zZ zeq hnx (by decide) hb rfl
end
def BdL (L:Nat) (ls:List (List Int)) (acc:List Bool):Prop:=ls.length≤L∧acc.length≤L∧∀ l∈ls,l.length≤L
theorem BdL.more {L K:Nat} {ls:List (List Int)} {acc:List Bool}(h:BdL L ls acc)(hK:L≤K):BdL K ls acc:=⟨Nat.le_trans h.1 hK,Nat.le_trans h.2.1 hK,fun l hl=>Nat.le_trans (h.2.2 l hl) hK⟩
def BdA (L:Nat) (b:Aut):Prop:=BdL L b.next b.acc
theorem BdA.of {b:Aut}(h:zct b):BdA 16 b:=by
 obtain⟨a,p,ha,hp1,hp,h1,h2,h3,h4⟩:=h
 exact⟨by omega,by omega,fun l hl=>by have:=h4 l hl;have:=zn a 6;omega⟩
theorem tot_le {L:Nat}:∀ ls:List (List Int),(∀ l∈ls,l.length≤L)→tot ls≤ls.length*L
 |[],_=>by simp [tot]
 |l :: r,h=>by
  have:=tot_le r (fun x hx=>h x (by simp [hx]))
  have:=h l (by simp)
  rw [tot_cons,List.length_cons,Nat.add_mul]
  omega
theorem BdA.size {L:Nat} {b:Aut}(h:BdA L b)(hL:L≤200):b.size≤1048576:=by
 have h1:=tot_le b.next h.2.2
 have h2:b.next.length*L≤200*200:=Nat.mul_le_mul (Nat.le_trans h.1 hL) hL
 have h3:=h.1;have h4:=h.2.1
 unfold Aut.size
 omega
end Go.Proofs.YtfcjhpodichpjaaDoor
