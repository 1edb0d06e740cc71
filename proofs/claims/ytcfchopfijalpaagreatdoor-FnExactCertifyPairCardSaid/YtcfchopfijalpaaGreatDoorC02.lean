/- Plain: the g -/
import Derived.Test.YtcfchopfijalpaaGreatDoorC01
import Derived.StillTailTactics
import Derived.Deep.RegionHeld3
import Derived.BigQuiet
set_option maxHeartbeats 4000000
set_option maxRecDepth 100000
namespace Go.Proofs.YtcfchopfijalpaaGreatDoor
open Go Go.RowKit
def rel (R:List Nat) (i j:Nat):Prop:=i<R.length∧(R.getD i 0).testBit j=true
def succ (es:List Edg) (i l:Int):Nat:=es.foldl (fun m e=>if e.fr=i∧e.le=l then m|||2 ^ e.ta.toNat else m) 0
theorem succ_snoc (es:List Edg) (e:Edg) (i l:Int):succ (es++[e]) i l=if e.fr=i∧e.le=l then succ es i l|||2 ^ e.ta.toNat else succ es i l:=by
 simp [succ]
theorem and_pred (k m:Nat):(2 ^ k*(2*m+1))&&&(2 ^ k*(2*m+1) - 1)=2 ^ k*(2*m):=by
 have hp:=Nat.two_pow_pos k
 have e:2 ^ k*(2*m+1) - 1=2 ^ k*(2*m)+(2 ^ k - 1):=by rw [Nat.mul_add,Nat.mul_one];omega
 rw [e]
 apply Nat.eq_of_testBit_eq
 intro i
 have e0:∀ q,(2 ^ k*q).testBit i=if i<k then false else q.testBit (i - k):=fun q=>by
  have:=Nat.testBit_two_pow_mul_add q (b:=0) (i:=k) hp i
  rw [Nat.add_zero] at this
  rw [this,Nat.zero_testBit]
 rw [Nat.testBit_and,e0,Nat.testBit_two_pow_mul_add _ (by omega),e0]
 by_cases hi:i<k
 ·simp [hi]
 ·simp only [hi,if_false]
  cases hd:i - k with
  |zero=>simp [Nat.testBit_zero]
  |succ d=>rw [Nat.testBit_succ,Nat.testBit_succ,show (2*m+1) / 2=m by omega,show (2*m) / 2=m by omega];simp
theorem lowest {x:Nat}(h0:x≠0)(hs:Sm x):∃ k,Lib.ctz 64 x=k∧k<32∧x.testBit k=true∧(∀ i,i<k→x.testBit i=false)∧x&&&(x - 1)=x - 2 ^ k∧2 ^ k≤x:=by
 have hx:=hs.lt
 obtain⟨m,hm,hk⟩:=Lib.ctzFrom_spec 64 x (by omega) (by omega)
 have e:Lib.ctz 64 x=Lib.ctzFrom 64 x:=by simp [Lib.ctz,h0]
 generalize Lib.ctzFrom 64 x=k at *
 have hp:=Nat.two_pow_pos k
 have hle:2 ^ k≤x:=by rw [hm];exact Nat.le_mul_of_pos_right _ (by omega)
 have e0:∀ q i,(2 ^ k*q).testBit i=if i<k then false else q.testBit (i - k):=fun q i=>by
  have:=Nat.testBit_two_pow_mul_add q (b:=0) (i:=k) hp i
  rw [Nat.add_zero] at this
  rw [this,Nat.zero_testBit]
 refine⟨k,e,?_,?_,fun i hi=>?_,?_,hle⟩
 ·apply Nat.lt_of_not_le
  intro h32
  have:=Nat.pow_le_pow_right (n:=2) (by omega) h32
  omega
 ·rw [hm,e0];simp
 ·rw [hm,e0];simp [hi]
 ·rw [hm,and_pred,Nat.mul_add,Nat.mul_one,Nat.add_sub_cancel]
theorem zcB {x j:Nat}(h:x.testBit j=true)(hl:∀ i,i<j→x.testBit i=false) (k:Nat):(x - 2 ^ j).testBit k=(x.testBit k&&!decide (k=j)):=by
 have hodd:x / 2 ^ j % 2=1:=by
  have:=h
  rw [Nat.testBit_eq_decide_div_mod_eq] at this
  simpa using this
 have hp:=Nat.two_pow_pos j
 have hr:x % 2 ^ j=0:=by
  apply Nat.eq_of_testBit_eq
  intro i
  rw [Nat.testBit_mod_two_pow,Nat.zero_testBit]
  by_cases hi:i<j
  ·simp [hi,hl i hi]
  ·simp [hi]
 have hdm:=Nat.div_add_mod x (2 ^ j)
 rw [hr,Nat.add_zero] at hdm
 generalize x / 2 ^ j=q at *
 have e0:∀ q i,(2 ^ j*q).testBit i=if i<j then false else q.testBit (i - j):=fun q i=>by
  have:=Nat.testBit_two_pow_mul_add q (b:=0) (i:=j) hp i
  rw [Nat.add_zero] at this
  rw [this,Nat.zero_testBit]
 have e:x - 2 ^ j=2 ^ j*(q - 1):=by rw [← hdm,Nat.mul_sub,Nat.mul_one]
 rw [e,← hdm,e0,e0]
 by_cases hk:k<j
 ·simp [hk]
 ·simp only [hk,if_false]
  obtain⟨d,rfl⟩:∃ d,k=j+d:=⟨k - j,by omega⟩
  rw [Nat.add_sub_cancel_left]
  cases d with
  |zero=>simp [Nat.testBit_zero];omega
  |succ d =>
   rw [Nat.testBit_succ,Nat.testBit_succ,show (q - 1) / 2=q / 2 by omega]
   simp
theorem zgx {x k:Nat}(h:x.testBit k=true)(hl:∀ i,i<k→x.testBit i=false):∀ n,(n≤k→letters x n=[]∧letters (x - 2 ^ k) n=[])∧(k<n→letters x n=k :: letters (x - 2 ^ k) n)
 |0=>⟨fun _=>⟨rfl,rfl⟩,fun h=>by omega⟩
 |n+1=>by
  have ih:=zgx h hl n
  have hb:=zcB h hl n
  rw [zaW,zaW,hb]
  refine⟨fun hn=>?_,fun hn=>?_⟩
  ·obtain⟨e1,e2⟩:=ih.1 (by omega)
   rw [e1,e2,hl n (by omega)]
   simp
  ·rcases Nat.lt_or_ge k n with h1|h1
   ·rw [ih.2 h1]
    have:n≠k:=by omega
    simp [this]
   ·obtain⟨e1,e2⟩:=ih.1 h1
    obtain rfl:n=k:=by omega
    rw [e1,e2,h]
    simp
theorem letters_step {x:Nat}(h0:x≠0)(hs:Sm x):letters x 32=Lib.ctz 64 x :: letters (x&&&(x - 1)) 32∧x&&&(x - 1)<x∧Lib.ctz 64 x<32:=by
 obtain⟨k,e,hk,hb,hl,ha,hle⟩:=lowest h0 hs
 have hp:=Nat.two_pow_pos k
 rw [e,ha]
 exact⟨(zgx hb hl 32).2 hk,by omega,hk⟩
theorem impl_members (a:Nat)(hs:Sm a) (w:World)(hT:Tab w) :
  Calls Tryz.prog 243 #[.int .i64 a] w (zbB w (letters a 32)):=by
 have hlen:=zI a 32
 go_enter Tryz.func243,Tryz.ntmps243
 go_wp2
 go_loopw [0,3,4] (fun s v _ wr=>∃ x:Nat,s=.int .i64 x∧Sm x∧∃ o:List Nat,Hid (letters a 32=o++letters x 32)∧wr.ownsRow w.heap.size 3 1 v o.length (zS o)∧Ext w wr)
  (fun s _ _ _=>(intOf s).toNat)
 case atStart=>exact⟨a,rfl,hs,[],rfl,World.ownsRow_nil _ _ _ _,Ext.refl _⟩
 case round =>
  obtain⟨x,rfl,hx,o,ho,ziJ,ziL⟩:=hrel
  have hx':=hx.lt
  have hol:o.length+(letters x 32).length≤32:=by have:=ho.out;rw [this,List.length_append] at hlen;exact hlen
  by_cases h0:x=0
  ·subst h0
   obtain⟨A,c,rfl⟩:=zi ziJ
   go_wp2
   go_ret
   have hl0:=ho.out
   rw [show letters 0 32=[] by decide,List.append_nil] at hl0
   exact⟨A,c,by rw [hl0];rfl,by rw [hl0];exact ziJ,ziL⟩
  ·obtain⟨hl,hlt,hc⟩:=letters_step h0 hx
   have Hl:=za hl
   have hne:((x:Int) != 0)=true:=by simp;omega
   have hT':=hT.ext ziL
   have hb:=za (zdo (a:=x) (b:=x - 1) hx (by unfold Sm;omega))
   have hol':o.length<32:=by rw [hl] at hol;simp at hol;omega
   clear hl hlen hol
   have hi:=za (show ((x:Int) - 1)=((x - 1:Nat):Int) by omega)
   go_wp2_with (first
    |(go_at_call 276;refine (tz x (by omega) h0 _ hT').mono ?_;rintro e w' ⟨rfl,rfl⟩)
    |(at_builtin;refine zak w wr rfl (.tmp 10) (.tmp 14) _ rfl 3 _ 1 8 Tryz.underlying128 zah rfl (by decide) u3 _ _ _ _ rfl rfl ziL ziJ rfl (zaR _) (by unfold maxLen;omega) (by omega) ?_;intro v' w1 hext1 ziS hg1 hat1))
   go_roundw
   case rel=>exact⟨x&&&(x - 1),by rw [hi.out,hb.out],Nat.lt_of_le_of_lt Nat.and_le_left hx,o++[Lib.ctz 64 x],by have:=ho.out;unfold Hid;rw [this,Hl.out];simp,by simpa [zS] using ziS,by assumption⟩
   case measure =>
    have:=hb.out
    rw [← hi.out] at this
    simp [intOf]
    omega
theorem foldl_bit (es:List Edg) (p:Edg→Prop) [DecidablePred p] (m k:Nat):(es.foldl (fun m e=>if p e then m|||2 ^ e.ta.toNat else m) m).testBit k=true↔m.testBit k=true∨∃ e∈es,p e∧e.ta.toNat=k:=by
 induction es generalizing m with
 |nil=>simp
 |cons e r ih =>
  rw [List.foldl_cons,ih]
  by_cases hp:p e
  ·rw [if_pos hp,Nat.testBit_or,Nat.testBit_two_pow]
   simp only [Bool.or_eq_true,decide_eq_true_eq,List.mem_cons]
   constructor
   ·rintro ((h|h)|⟨e',h1,h2⟩)
    ·exact Or.inl h
    ·exact Or.inr ⟨e,Or.inl rfl,hp,h⟩
    ·exact Or.inr ⟨e',Or.inr h1,h2⟩
   ·rintro (h|⟨e',h1|h1,h2⟩)
    ·exact Or.inl (Or.inl h)
    ·subst h1;exact Or.inl (Or.inr h2.2)
    ·exact Or.inr ⟨e',h1,h2⟩
  ·rw [if_neg hp]
   constructor
   ·rintro (h|⟨e',h1,h2⟩)
    ·exact Or.inl h
    ·exact Or.inr ⟨e',List.mem_cons_of_mem _ h1,h2⟩
   ·rintro (h|⟨e',h1,h2⟩)
    ·exact Or.inl h
    ·rcases List.mem_cons.1 h1 with h1|h1
     ·subst h1;exact absurd h2.1 hp
     ·exact Or.inr ⟨e',h1,h2⟩
theorem zdu (es:List Edg) (i l:Int) (k:Nat):(succ es i l).testBit k=true↔∃ e∈es,(e.fr=i∧e.le=l)∧e.ta.toNat=k:=by
 have:=foldl_bit es (fun e=>e.fr=i∧e.le=l) 0 k
 simpa [succ] using this
def Few (n:Nat) (es:List Edg):Prop:=∀ e∈es,(0≤e.fr∧e.fr<n)∧(0≤e.le∧e.le<6)∧(0≤e.ta∧e.ta<n)
theorem succ_lt {n:Nat} {es:List Edg}(h:Few n es) (i l:Int):succ es i l<2 ^ n:=by
 apply Nat.lt_pow_two_of_testBit
 intro k hk
 rw [Bool.eq_false_iff]
 intro hb
 obtain⟨e,he,_,h3⟩:=(zdu es i l k).1 hb
 have:=h e he
 omega
theorem succ_sm {n:Nat} {es:List Edg}(h:Few n es)(hn:n≤16) (i l:Int):Sm (succ es i l):=
 Nat.lt_of_lt_of_le (succ_lt h i l) (by rw [show (4294967296:Nat)=2 ^ 32 from rfl];exact Nat.pow_le_pow_right (by omega) (by omega))
def diff (a b:Nat):Nat:=a ^^^ (a&&&b)
theorem zhY (a b k:Nat):(diff a b).testBit k=(a.testBit k&&!b.testBit k):=by
 unfold diff
 rw [Nat.testBit_xor,Nat.testBit_and]
 cases a.testBit k<;>cases b.testBit k<;>rfl
theorem diff_le (a b:Nat):diff a b≤a:=by
 apply Nat.le_of_testBit
 intro k hk
 rw [zhY] at hk
 simp at hk
 exact hk.1
theorem mem_letters {a n k:Nat}:k∈letters a n↔k<n∧a.testBit k=true:=by simp [letters]
def cho (s:Sys) (i l:Nat):List Nat:=if s.al.toNat.testBit l then letters (succ s.edges i l) 32 else [i]
def nx:List Sys→Nat→Nat→List Nat × Nat × Nat
 |[],m,_=>([0],1,m)
 |s :: r,m,l=>((cho s ((nx r m l).2.2 % s.st.toNat) l).flatMap (fun q=>(nx r m l).1.map fun x=>q*(nx r m l).2.1+x),(nx r m l).2.1*s.st.toNat,(nx r m l).2.2 / s.st.toNat)
def Sml (s:Sys):Prop:=1≤s.st∧s.st≤16∧Few s.st.toNat s.edges∧0≤s.al∧s.al≤63
theorem zeX (a k:Nat):(letters a k).Nodup:=List.Pairwise.filter _ List.nodup_range
theorem zz {a k x:Nat}:x∈letters a k↔x<k∧a.testBit x=true:=by simp [letters,List.mem_filter]
theorem cho_lt {s:Sys}(h:Sml s) {i l:Nat}(hi:i<s.st.toNat):∀ q∈cho s i l,q<s.st.toNat:=by
 intro q hq
 unfold cho at hq
 split at hq
 ·have hb:=(zz.1 hq).2
  rcases Nat.lt_or_ge q s.st.toNat with h1|h1
  ·exact h1
  ·have:=Nat.testBit_lt_two_pow (Nat.lt_of_lt_of_le (succ_lt h.2.2.1 i l) (Nat.pow_le_pow_right (by omega) h1))
   rw [hb] at this;cases this
 ·rw [List.mem_singleton.1 hq];exact hi
theorem cho_nodup (s:Sys) (i l:Nat):(cho s i l).Nodup:=by
 unfold cho
 split
 ·exact zeX _ _
 ·simp
theorem zgB {l:List Nat}(h:l.Nodup) {p:Nat}(hl:∀ x∈l,x<p):l.length≤p:=by
 have h1:l ⊆ List.range p:=fun x hx=>List.mem_range.2 (hl x hx)
 have:=List.Nodup.length_le_of_subset h h1
 simpa using this
theorem cho_len {s:Sys}(h:Sml s) {i l:Nat}(hi:i<s.st.toNat):(cho s i l).length≤s.st.toNat:=zgB (cho_nodup s i l) (cho_lt h hi)
theorem flat_nodup {l R:List Nat} {W:Nat}(hl:l.Nodup)(hR:R.Nodup)(hW:∀ x∈R,x<W):(l.flatMap fun q=>R.map fun x=>q*W+x).Nodup:=by
 induction l with
 |nil=>simp
 |cons a r ih =>
  rw [List.flatMap_cons]
  rw [List.nodup_cons] at hl
  refine List.nodup_append.2 ⟨?_,ih hl.2,?_⟩
  ·exact List.Pairwise.map _ (fun a b h=>by simpa using h) hR
  ·intro x hx y hy hxy
   subst hxy
   obtain⟨u,hu,rfl⟩:=List.mem_map.1 hx
   obtain⟨b,hb,hy⟩:=List.mem_flatMap.1 hy
   obtain⟨v,hv,he⟩:=List.mem_map.1 hy
   have h1:=hW u hu
   have h2:=hW v hv
   have:a=b:=by
    have e1:(a*W+u) / W=a:=by rw [Nat.add_comm,Nat.add_mul_div_right _ _ (by omega),Nat.div_eq_of_lt h1,Nat.zero_add]
    have e2:(b*W+v) / W=b:=by rw [Nat.add_comm,Nat.add_mul_div_right _ _ (by omega),Nat.div_eq_of_lt h2,Nat.zero_add]
    rw [← e1,← e2,he]
   subst this
   exact hl.1 hb
theorem nx_facts {ss:List Sys}(h:∀ s∈ss,Sml s) (m l:Nat):1≤(nx ss m l).2.1∧(nx ss m l).2.1≤16 ^ ss.length∧(∀ x∈(nx ss m l).1,x<(nx ss m l).2.1)∧(nx ss m l).1.Nodup∧(nx ss m l).2.2≤m:=by
 induction ss with
 |nil=>simp [nx]
 |cons s r ih =>
  obtain⟨h1,h2,h3,h4,h5⟩:=ih fun s hs=>h s (List.mem_cons_of_mem _ hs)
  have hs:=h s List.mem_cons_self
  have hst:1≤s.st.toNat∧s.st.toNat≤16:=by have:=hs.1;have:=hs.2.1;omega
  refine⟨Nat.mul_pos h1 hst.1,?_,fun x hx=>?_,flat_nodup (cho_nodup _ _ _) h4 h3,Nat.le_trans (Nat.div_le_self _ _) h5⟩
  ·rw [nx,List.length_cons,Nat.pow_succ]
   exact Nat.mul_le_mul h2 hst.2
  ·rw [nx] at hx ⊢
   obtain⟨q,hq,hx⟩:=List.mem_flatMap.1 hx
   obtain⟨y,hy,rfl⟩:=List.mem_map.1 hx
   have hq':=cho_lt hs (Nat.mod_lt _ hst.1) q hq
   have hy':=h3 y hy
   calc q*(nx r m l).2.1+y<q*(nx r m l).2.1+(nx r m l).2.1:=by omega
    _=(q+1)*(nx r m l).2.1:=by rw [Nat.add_mul,Nat.one_mul]
    _≤s.st.toNat*(nx r m l).2.1:=Nat.mul_le_mul_right _ hq'
    _=(nx r m l).2.1*s.st.toNat:=Nat.mul_comm _ _
theorem nx_len {ss:List Sys}(h:∀ s∈ss,Sml s) (m l:Nat):(nx ss m l).1.length≤16 ^ ss.length:=by
 obtain⟨h1,h2,h3,h4,_⟩:=nx_facts h m l
 exact Nat.le_trans (zgB h4 h3) h2
theorem zaC (a:Nat)(hs:Sm a) (w:World) :
  Calls Tryz.prog 131 #[.int .i64 a] w (zbB w (letters a 6)):=by
 go_enter Tryz.func131,Tryz.ntmps131
 go_wp2
 go_loopw [3,4] (fun v i wr=>∃ k:Nat,k≤6∧i=.int .i64 k∧wr.ownsRow w.heap.size 3 1 v (letters a k).length (zS (letters a k))∧Ext w wr)
  (fun _ i _=>6 - (intOf i).toNat)
 case atStart=>exact⟨0,Nat.zero_le _,rfl,World.ownsRow_lit w #[] 0 (Nat.le_refl _) (by unfold maxLen;omega) rfl,(Ext.refl _).alloc _⟩
 case round =>
  obtain⟨k,hk,rfl,ziJ,ziL⟩:=hrel
  have hl:=zI a k
  by_cases hlt:k<6
  ·cases hb:a.testBit k
   all_goals
    have Hb:=za hb
    have hls:=zaW a k
    rw [hb] at hls
    have Hls:=za hls
    clear hls hb
    go_wp2_with (first
     |(go_at_call 140;refine (zab a k hs _ (by omega)).mono ?_;rw [Hb.out];rintro e w' ⟨rfl,rfl⟩)
     |(at_builtin;refine zak w wr rfl _ _ _ rfl 3 _ 1 8 Tryz.underlying128 zah rfl (by decide) u3 _ _ _ _ rfl rfl ziL ziJ rfl (zaR _) (by unfold maxLen;omega) (by omega) ?_;intro v' w1 hext1 ziS hg1 hat1))
    go_roundw
    case rel=>exact⟨k+1,by omega,by go_num,by rw [Hls.out];first|simpa [zS] using ziS|simpa using ziJ,by assumption⟩
    case measure=>simp [intOf];omega
  ·obtain rfl:k=6:=by omega
   obtain⟨A,c,rfl⟩:=zi ziJ
   go_wp2
   go_ret
   exact⟨_,_,rfl,ziJ,ziL⟩
def zcw (b:UInt8):Bool:=decide (97≤(b.toNat:Int)∧(b.toNat:Int)≤102)
def zaM (s:ByteArray):Bool:=decide (s.size≤50000)&&s.data.toList.all zcw
theorem zbE (s:ByteArray) (i:Nat)(h:i<s.size):s.data.toList[i]?=some s[i]:=by
 rw [List.getElem?_eq_getElem (by simpa using h)];rfl
theorem yC02a1 {P:Prop}(h:P:=by
 go_wp2_with (go_at_call 141;refine (zbL s k hlt _).mono ?_;rw [hx.out];rintro e w' ⟨rfl,rfl⟩)
 go_ret
 exact⟨zj (by rw [zaM,zat hg.out (by have:=hx.out;simp [zcw];omega),Bool.and_false]),rfl⟩
 ):P:=h
theorem zca (s:ByteArray) (w:World)(hs:s.size≤9223372036854775807) :
  Calls Tryz.prog 138 #[.string s] w fun e w'=>e=.returned (.bool (zaM s))∧w=w':=by
 by_cases h:50000<s.size
 ·go_enter Tryz.func138,Tryz.ntmps138
  go_wp2
  go_ret
  exact⟨by simp [zaM,show ¬ s.size≤50000 by omega],rfl⟩
 ·go_enter Tryz.func138,Tryz.ntmps138
  go_wp2
  go_loop [3] (fun i=>∃ k:Nat,k≤s.size∧i=.int .i64 k∧Hid ((s.data.toList.take k).all zcw=true)) (fun i=>s.size - (intOf i).toNat)
  case atStart=>exact⟨0,Nat.zero_le _,rfl,rfl⟩
  case round =>
   obtain⟨k,hk,rfl,hall⟩:=hrel
   by_cases hlt:k<s.size
   ·have hg:=za (zbE s k hlt)
    obtain⟨x,hx,hx0,hx1⟩:∃ x:Int,Hid ((s[k].toNat:Int) - 97=x) ∧ -97≤x∧x≤158:=⟨(s[k].toNat:Int) - 97,za rfl,by omega,by have:=zhT s k hlt;omega⟩
    by_cases h0:x<0
    ·exact yC02a1
    ·by_cases h1:6≤x
     ·exact yC02a1
     ·go_wp2_with (go_at_call 141;refine (zbL s k hlt _).mono ?_;rw [hx.out];rintro e w' ⟨rfl,rfl⟩)
      go_round
      case rel=>exact⟨k+1,by omega,by go_num,zbZ hg.out hall.out (by have:=hx.out;simp [zcw];omega)⟩
      case measure=>simp [intOf];omega
   ·obtain rfl:k=s.size:=by omega
    go_wp2
    go_ret
    exact⟨zj (by rw [zaM,zdD (by simp) hall.out];simp;omega),rfl⟩
def zfw (s:ByteArray) (a:Nat):Bool:=s.data.toList.all fun b=>hasB a (ltr b.toNat)
theorem over_all {a:Nat}(h:a=63) (b:UInt8):hasB a (ltr b.toNat)=zcw b:=by
 subst h
 have:b.toNat<256:=b.toNat_lt
 unfold hasB ltr zcw
 by_cases h1:(b.toNat:Int) - 97<0
 ·rw [if_pos (.inl h1)];simp;omega
 ·by_cases h2:6≤(b.toNat:Int) - 97
  ·rw [if_pos (.inr h2)];simp;omega
  ·rw [if_neg (by omega)]
   have h3:b.toNat=97∨b.toNat=98∨b.toNat=99∨b.toNat=100∨b.toNat=101∨b.toNat=102:=by omega
   rcases h3 with h|h|h|h|h|h<;>rw [h]<;>decide
theorem overB_63 (s:ByteArray):zfw s 63=s.data.toList.all zcw:=by
 unfold zfw
 congr 1
 funext b
 exact over_all rfl b
theorem zgp (s:ByteArray) (a:Nat) (w:World)(hs:s.size≤9223372036854775807)(ha:a≤63) :
  Calls Tryz.prog 103 #[.string s,.int .i64 a] w fun e w'=>e=.returned (.bool (decide (s.size≤50000)&&zfw s a))∧w=w':=by
 have hsm:Sm a:=by unfold Sm;omega
 have hal:(decide ((0:Int)≤a∧(a:Int)≤63))=true:=by simp;omega
 have Hal:=za hal
 clear hal
 by_cases h:50000<s.size
 ·go_enter Tryz.func103,Tryz.ntmps103
  go_wp2_with (go_at_call 173;refine (zR _ _).mono ?_;rw [Hal.out];rintro e w' ⟨rfl,rfl⟩)
  go_ret
  exact⟨by simp [show ¬ s.size≤50000 by omega],rfl⟩
 ·go_enter Tryz.func103,Tryz.ntmps103
  go_wp2_with (go_at_call 173;refine (zR _ _).mono ?_;rw [Hal.out];rintro e w' ⟨rfl,rfl⟩)
  go_loop [16] (fun i=>∃ k:Nat,k≤s.size∧i=.int .i64 k∧Hid ((s.data.toList.take k).all (fun b=>hasB a (ltr b.toNat))=true)) (fun i=>s.size - (intOf i).toNat)
  case atStart=>exact⟨0,Nat.zero_le _,rfl,rfl⟩
  case round =>
   obtain⟨k,hk,rfl,hall⟩:=hrel
   by_cases hlt:k<s.size
   ·have hg:=za (zbE s k hlt)
    cases hb:hasB a (ltr (s[k].toNat:Int))
    ·have Hb:=za hb
     clear hb
     go_wp2_with (first|(go_at_call 153;refine (zaJ s k hlt _).mono ?_;rintro e w' ⟨rfl,rfl⟩)|(go_at_call 161;refine (zbp _ _ hsm _).mono ?_;rw [Hb.out];rintro e w' ⟨rfl,rfl⟩))
     go_ret
     exact⟨zj (by rw [zfw,zat hg.out Hb.out,Bool.and_false]),rfl⟩
    ·have Hb:=za hb
     clear hb
     go_wp2_with (first|(go_at_call 153;refine (zaJ s k hlt _).mono ?_;rintro e w' ⟨rfl,rfl⟩)|(go_at_call 161;refine (zbp _ _ hsm _).mono ?_;rw [Hb.out];rintro e w' ⟨rfl,rfl⟩))
     go_round
     case rel=>exact⟨k+1,by omega,by go_num,zbZ hg.out hall.out Hb.out⟩
     case measure=>simp [intOf];omega
   ·obtain rfl:k=s.size:=by omega
    go_wp2
    go_ret
    exact⟨zj (by rw [zfw,zdD (by simp) hall.out];simp;omega),rfl⟩
theorem zhd (s:ByteArray) (w:World)(hs:s.size≤9223372036854775807) :
  Calls Tryz.prog 106 #[.string s] w fun e w'=>e=.returned (.bool (zaM s))∧w=w':=by
 have hov:=overB_63 s
 have Hov:=za hov
 clear hov
 go_enter Tryz.func106,Tryz.ntmps106
 go_wp2_with (go_at_call 103;refine (zgp s 63 _ hs (by omega)).mono ?_;rintro e w' ⟨rfl,rfl⟩)
 go_ret
 exact⟨zj (by rw [Hov.out];rfl),rfl⟩
def rowB (k n:Nat) (row:List Int):Bool:=decide (row.length=k)&&row.all fun q=>decide (0≤q∧q<n)
def zk (a:Aut):Bool:=
 decide (0≤a.al∧a.al≤63)&&(decide (1≤a.next.length∧a.next.length≤12)&&(decide (a.acc.length=a.next.length)&&a.next.all (rowB (letters a.al.toNat 6).length a.next.length)))
theorem zhI (lo hi:Nat) (A:Option Addr) (n c:Nat) (l:List Int) (k m:Nat) (w:World)(h:Reads w lo hi 1 A n (ints l))(hk:k≤100) (_hm:m≤100) :
  Calls Tryz.prog 261 #[.slice A n c,.int .i64 k,.int .i64 m] w fun e w'=>e=.returned (.bool (rowB k m l))∧w=w':=by
 have hn:=h.len
 have hl:l.length=n:=by have:=h.length;rw [zbU] at this;omega
 have Hl:=za hl
 clear hl
 by_cases he:n=k
 ·subst he
  go_enter Tryz.func261,Tryz.ntmps261
  go_wp2
  go_loop [7] (fun i=>∃ k:Nat,k≤n∧i=.int .i64 k∧Hid ((l.take k).all (fun q=>decide (0≤q∧q<m))=true)) (fun i=>n - (intOf i).toNat)
  case atStart=>exact⟨0,Nat.zero_le _,rfl,rfl⟩
  case round =>
   obtain⟨k,hk,rfl,hall⟩:=hrel
   by_cases hlt:k<n
   ·obtain⟨ad,x,rfl,_,_,hx,hcell⟩:=h.int hlt
    by_cases h0:x<0
    ·go_wp2
     go_ret
     exact⟨zj (by rw [rowB,zat hx.out (by simp;omega),Bool.and_false]),rfl⟩
    ·by_cases h1:(m:Int)≤x
     ·go_wp2
      go_ret
      exact⟨zj (by rw [rowB,zat hx.out (by simp;omega),Bool.and_false]),rfl⟩
     ·go_wp2
      go_round
      case rel=>exact⟨k+1,by omega,by go_num,zbZ hx.out hall.out (by simp;omega)⟩
      case measure=>simp [intOf];omega
   ·obtain rfl:k=n:=by omega
    go_wp2
    go_ret
    exact⟨zj (by rw [rowB,zdD (by have:=Hl.out;omega) hall.out,Hl.out];simp),rfl⟩
 ·go_enter Tryz.func261,Tryz.ntmps261
  go_wp2
  go_ret
  exact⟨zj (by rw [rowB,Hl.out];simp [he]),rfl⟩
theorem zO (lo hi:Nat) (A:Option Addr) (n c:Nat) (A':Option Addr) (n' c':Nat) (a:Aut) (w:World)(h:zC w lo hi A n A' n' a) :
  Calls Tryz.prog 200 #[.agg #[.int .i64 a.al,.slice A n c,.slice A' n' c']] w fun e w'=>e=.returned (.bool (zk a))∧Ext w w':=by
 have h1:=h.n1
 have h2:=h.n2
 have Hv:=za (show zk a=(decide (0≤a.al∧a.al≤63)&&(decide (1≤n∧n≤12)&&(decide (n'=n)&&a.next.all (rowB (letters a.al.toNat 6).length n)))) by unfold zk;rw [← h1,← h2])
 have hl1:=h.1.len
 have hl2:=h.2.2.len
 clear h1 h2
 by_cases hal:0≤a.al∧a.al≤63
 ·have hd:=za (show decide (0≤a.al∧a.al≤63)=true by simp;omega)
  by_cases hn:1≤n∧n≤12
  ·have hd1:decide ((n:Int)<1)=false:=by simp;omega
   have hd2:decide (12<(n:Int))=false:=by simp;omega
   by_cases hn':n'=n
   ·subst hn'
    obtain⟨al,hal'⟩:∃ al:Nat,Hid (a.al=al):=⟨a.al.toNat,by unfold Hid;omega⟩
    have hsm:Sm al:=by have:=hal'.out;unfold Sm;omega
    have hll:=zI al 6
    rw [hal'.out]
    rw [hal'.out] at hd
    rw [hal'.out,Int.toNat_natCast] at Hv
    clear hal
    have hR:=fun W (hW:Ext w W)=>h.1.ext hW
    have HR:=za hR
    clear hR
    go_enter Tryz.func200,Tryz.ntmps200
    go_wp2_with (go_at_call 139;refine (zT _ _).mono ?_;rw [hd.out];rintro e w' ⟨rfl,rfl⟩)
    go_loopw [4] (fun i wr=>∃ k:Nat,k≤n'∧i=.int .i64 k∧Hid ((a.next.take k).all (rowB (letters al 6).length n')=true)∧Ext (w.alloc (.cells #[Value.int .i64 al,Value.slice A n' c,Value.slice A' n' c'] 31)) wr)
     (fun i _=>n' - (intOf i).toNat)
    case atStart=>exact⟨0,Nat.zero_le _,rfl,rfl,Ext.refl _⟩
    case round =>
     obtain⟨k,hk,rfl,hall,ziL⟩:=hrel
     have hbox:∀ W,Ext wr W→∀ j,W.cell? ⟨w.heap.size,j,none⟩=#[Value.int .i64 al,Value.slice A n' c,Value.slice A' n' c'][j]?:=fun W hW=>zct (ziL.trans hW)
     by_cases hlt:k<n'
     ·obtain⟨ad,Ak,ck,l,rfl,hlo,hhi,hl,hcell,hrk⟩:=(HR.out wr (((Ext.refl _).alloc _).trans ziL)).row hlt
      have hce:∀ W,Ext wr W→W.cell? (ad.add k)=some (.slice Ak l.length ck):=fun W hW=>hW.cell_some hcell
      have hwr:=Ext.refl wr
      have ziM:∀ W,Ext wr W→Ext w W:=fun W hW=>(((Ext.refl _).alloc _).trans ziL).trans hW
      have Hfin:=za ziM
      clear ziM
      cases hrb:rowB (letters al 6).length n' l
      ·have Hrb:=za hrb
       clear hrb
       go_wp2_with fail
       go_region_held3 (fun W=>Ext wr W) (first|assumption|(refine Ext.drew ?_;assumption)|(refine Ext.trans ?_ (by assumption);assumption)|(refine Ext.trans ?_ (by assumption);refine Ext.drew ?_;assumption)) (first|(go_at_call 131;refine (zaC _ hsm _).mono ?_;rintro e w2 ⟨A2,c2,rfl,ziT,hext2⟩)|(go_at_call 261;refine (zhI _ _ _ _ _ _ _ _ _ (hrk.ext ?_) (by omega) (by omega)).mono ?_;assumption;rw [Hrb.out];rintro e w3 ⟨rfl,rfl⟩))
       go_wp2
       go_ret
       exact⟨zj (by rw [Hv.out,zat hl.out Hrb.out];simp),Hfin.out _ (by assumption)⟩
      ·have Hrb:=za hrb
       clear hrb
       go_wp2_with fail
       go_region_held3 (fun W=>Ext wr W) (first|assumption|(refine Ext.drew ?_;assumption)|(refine Ext.trans ?_ (by assumption);assumption)|(refine Ext.trans ?_ (by assumption);refine Ext.drew ?_;assumption)) (first|(go_at_call 131;refine (zaC _ hsm _).mono ?_;rintro e w2 ⟨A2,c2,rfl,ziT,hext2⟩)|(go_at_call 261;refine (zhI _ _ _ _ _ _ _ _ _ (hrk.ext ?_) (by omega) (by omega)).mono ?_;assumption;rw [Hrb.out];rintro e w3 ⟨rfl,rfl⟩))
       go_wp2
       go_roundw
       case rel=>exact⟨k+1,by omega,by go_num,zbZ hl.out hall.out Hrb.out,ziL.trans (by assumption)⟩
       case measure=>simp [intOf];omega
     ·obtain rfl:k=n':=by omega
      go_wp2
      go_ret
      exact⟨zj (by rw [Hv.out,zdD (by have:=h.n1;omega) hall.out,hd.out];simp;omega),((Ext.refl _).alloc _).trans ziL⟩
   ·have hne:((n':Int) != (n:Int))=true:=by simp;omega
    go_enter Tryz.func200,Tryz.ntmps200
    go_wp2_with (go_at_call 139;refine (zT _ _).mono ?_;rw [hd.out];rintro e w' ⟨rfl,rfl⟩)
    go_ret
    exact⟨zj (by rw [Hv.out];simp [hn']),(Ext.refl _).alloc _⟩
  ·go_enter Tryz.func200,Tryz.ntmps200
   go_wp2_with (go_at_call 139;refine (zT _ _).mono ?_;rw [hd.out];rintro e w' ⟨rfl,rfl⟩)
   all_goals go_ret
   all_goals exact⟨zj (by rw [Hv.out];simp [hn]),(Ext.refl _).alloc _⟩
 ·go_enter Tryz.func200,Tryz.ntmps200
  have hd:decide (0≤a.al∧a.al≤63)=false:=by simp;omega
  go_wp2_with (go_at_call 139;refine (zT _ _).mono ?_;rw [hd];rintro e w' ⟨rfl,rfl⟩)
  go_ret
  exact⟨zj (by rw [Hv.out];simp;omega),(Ext.refl _).alloc _⟩
def place (a l:Nat):Nat:=(letters a l).length
def aGo (a:Aut) (q l:Nat):Nat:=if a.al.toNat.testBit l then ((a.next.getD q []).getD (place a.al.toNat l) 0).toNat else q
abbrev Mem:=Nat × (Nat→Nat→List Nat)
def zdk (s:Sys):Mem:=(s.st.toNat,cho s)
def zbf (a:Aut):Mem:=(a.next.length,fun q l=>[aGo a q l])
def zag:List Nat→Nat
 |[]=>1
 |m :: r=>m*zag r
def zB (ms:List Mem):Nat:=zag (ms.map Prod.fst)
theorem zde (m:Mem) (r:List Mem):zB (m :: r)=m.1*zB r:=rfl
theorem zcO (a b:List Nat):zag (a++b)=zag a*zag b:=by
 induction a with
 |nil=>simp [zag]
 |cons x r ih=>rw [List.cons_append,zag,zag,ih,Nat.mul_assoc]
theorem zbw (a b:List Mem):zB (a++b)=zB a*zB b:=by
 unfold zB
 rw [List.map_append,zcO]
theorem prodS_pos {l:List Nat}(h:∀ x∈l,1≤x):1≤zag l:=by
 induction l with
 |nil=>simp [zag]
 |cons x r ih=>exact Nat.mul_pos (h x (by simp)) (ih fun y hy=>h y (by simp [hy]))
def dec:List Nat→Nat→List Nat
 |[],_=>[]
 |s :: r,x=>(x / zag r % s) :: dec r x
theorem zcY (l:List Nat) (x:Nat):(dec l x).length=l.length:=by
 induction l with
 |nil=>rfl
 |cons s r ih=>simp [dec,ih]
theorem zhX {l:List Nat} {x k s:Nat}(h:l[k]?=some s):(dec l x)[k]?=some (x / zag (l.drop (k+1)) % s):=by
 induction l generalizing k with
 |nil=>simp at h
 |cons t r ih =>
  cases k with
  |zero=>simp at h;subst h;simp [dec]
  |succ k=>simp at h;simpa [dec] using ih h
def encF (acc:Nat):List Nat→List Nat→Nat
 |s :: r,x :: xs=>encF (acc*s+x) r xs
 |_,_=>acc
def pnx:List Mem→Nat→Nat→List Nat
 |[],_,_=>[0]
 |m :: r,x,l=>(m.2 (x / zB r % m.1) l).flatMap fun q=>(pnx r x l).map fun y=>q*zB r+y
def zdB (m:Mem):Prop:=1≤m.1∧∀ q l,q<m.1→l<6→∀ x∈m.2 q l,x<m.1
theorem zfd {ms:List Mem}(h:∀ m∈ms,zdB m):1≤zB ms:=prodS_pos fun x hx=>by
 obtain⟨m,hm,rfl⟩:=List.mem_map.1 hx
 exact (h m hm).1
theorem zhF {ms:List Mem}(h:∀ m∈ms,zdB m) {x l:Nat}(hl:l<6):∀ y∈pnx ms x l,y<zB ms:=by
 induction ms with
 |nil=>intro y hy;simp [pnx] at hy;subst hy;simp [zB,zag]
 |cons m r ih =>
  intro y hy
  rw [pnx] at hy
  obtain⟨q,hq,hy⟩:=List.mem_flatMap.1 hy
  obtain⟨z,hz,rfl⟩:=List.mem_map.1 hy
  have h1:=(h m (by simp)).2 _ l (Nat.mod_lt _ (h m (by simp)).1) hl q hq
  have h2:=ih (fun m hm=>h m (by simp [hm])) z hz
  rw [zde]
  calc q*zB r+z<q*zB r+zB r:=by omega
   _=(q+1)*zB r:=by rw [Nat.add_mul,Nat.one_mul]
   _≤m.1*zB r:=Nat.mul_le_mul_right _ h1
theorem zfx (a b:List Mem) (x l:Nat):pnx (a++b) x l=(pnx a (x / zB b) l).flatMap fun q=>(pnx b x l).map fun y=>q*zB b+y:=by
 induction a with
 |nil=>simp [pnx]
 |cons m r ih =>
  rw [List.cons_append,pnx,pnx,ih,zbw,List.flatMap_assoc]
  rw [Nat.div_div_eq_div_mul,Nat.mul_comm (zB b) (zB r)]
  congr 1
  funext q
  rw [List.map_flatMap,List.flatMap_map]
  congr 1
  funext z
  rw [List.map_map]
  congr 1
  funext y
  simp only [Function.comp]
  rw [Nat.add_mul,Nat.mul_assoc,Nat.add_assoc]
theorem nx_pnx (ss:List Sys) (m l:Nat):nx ss m l=(pnx (ss.map zdk) m l,zB (ss.map zdk),m / zB (ss.map zdk)):=by
 induction ss with
 |nil=>simp [nx,pnx,zB,zag]
 |cons s r ih =>
  rw [nx,ih,List.map_cons,pnx,zde]
  simp only [zdk]
  rw [Nat.div_div_eq_div_mul,Nat.mul_comm (zB _) s.st.toNat]
theorem pnx_two (a p:Aut) (x l:Nat):pnx [zbf a,zbf p] x l=[aGo a (x / p.next.length % a.next.length) l*p.next.length+aGo p (x % p.next.length) l]:=by
 simp [pnx,zbf,zB,zag]
theorem pnx_one (p:Aut) (x l:Nat):pnx [zbf p] x l=[aGo p (x % p.next.length) l]:=by
 simp [pnx,zbf,zB,zag]
theorem pnx_under (ss:List Sys) (a p:Aut) (x l:Nat) :
  pnx (ss.map zdk++[zbf a,zbf p]) x l=(nx ss (x / p.next.length / a.next.length) l).1.map fun y=>y*a.next.length*p.next.length+(aGo a (x / p.next.length % a.next.length) l*p.next.length+aGo p (x % p.next.length) l):=by
 have hp:zB [zbf a,zbf p]=a.next.length*p.next.length:=by simp [zB,zag,zbf]
 rw [zfx,pnx_two,nx_pnx,hp,Nat.div_div_eq_div_mul,Nat.mul_comm p.next.length a.next.length]
 simp only [List.map_cons,List.map_nil,← List.map_eq_flatMap,Nat.mul_assoc]
def free:Aut:=⟨0,[[]],[true]⟩
theorem pnx_free (ss:List Sys) (p:Aut) (x l:Nat):pnx (ss.map zdk++[zbf free,zbf p]) x l=pnx (ss.map zdk++[zbf p]) x l:=by
 have h0:∀ q l,aGo free q l=q:=fun q l=>by simp [aGo,free]
 rw [zfx,zfx,pnx_two,pnx_one,h0]
 have h1:zB [zbf free,zbf p]=p.next.length:=by simp [zB,zag,zbf,free]
 have h2:zB [zbf p]=p.next.length:=by simp [zB,zag,zbf]
 rw [h1,h2]
 have h3:free.next.length=1:=rfl
 rw [h3,Nat.mod_one,Nat.zero_mul,Nat.zero_add]
def fwd (cs:List (Nat × List Nat)):List Nat:=cs.foldl (fun out c=>out.flatMap fun o=>c.2.map fun x=>o*c.1+x) [0]
theorem zid (cs:List (Nat × List Nat)) (c:Nat × List Nat):fwd (cs++[c])=(fwd cs).flatMap fun o=>c.2.map fun x=>o*c.1+x:=by simp [fwd]
def chs:List Mem→Nat→Nat→List (Nat × List Nat)
 |[],_,_=>[]
 |m :: r,x,l=>(m.1,m.2 (x / zB r % m.1) l) :: chs r x l
theorem zfq (ms:List Mem) (x l:Nat):(chs ms x l).length=ms.length:=by
 induction ms with
 |nil=>rfl
 |cons m r ih=>simp [chs,ih]
theorem chs_get {ms:List Mem} {x l k:Nat} {m:Mem}(h:ms[k]?=some m):(chs ms x l)[k]?=some (m.1,m.2 (x / zB (ms.drop (k+1)) % m.1) l):=by
 induction ms generalizing k with
 |nil=>simp at h
 |cons t r ih =>
  cases k with
  |zero=>simp at h;subst h;simp [chs]
  |succ k=>simp at h;simpa [chs] using ih h
theorem foldl_pnx (ms:List Mem) (x l:Nat) (out:List Nat):(chs ms x l).foldl (fun out c=>out.flatMap fun o=>c.2.map fun x=>o*c.1+x) out=out.flatMap fun o=>(pnx ms x l).map fun y=>o*zB ms+y:=by
 induction ms generalizing out with
 |nil=>simp [chs,pnx,zB,zag]
 |cons m r ih =>
  rw [chs,List.foldl_cons,ih,pnx,List.flatMap_assoc]
  congr 1
  funext o
  rw [List.flatMap_map,List.map_flatMap]
  congr 1
  funext q
  rw [List.map_map]
  congr 1
  funext y
  simp only [Function.comp,zde]
  rw [Nat.add_mul,Nat.mul_assoc,Nat.add_assoc]
theorem fwd_pnx (ms:List Mem) (x l:Nat):fwd (chs ms x l)=pnx ms x l:=by
 have:=foldl_pnx ms x l [0]
 simpa [fwd] using this
theorem flat_len {α β:Type} {l:List α} {f:α→List β} {k:Nat}(h:∀ x∈l,(f x).length≤k):(l.flatMap f).length≤l.length*k:=by
 induction l with
 |nil=>simp
 |cons x r ih =>
  have h1:=ih fun y hy=>h y (by simp [hy])
  have h2:=h x (by simp)
  rw [List.flatMap_cons,List.length_append,List.length_cons,Nat.add_mul,Nat.one_mul]
  omega
theorem fwd_len {cs:List (Nat × List Nat)}(h:∀ c∈cs,c.2.length≤c.1):(fwd cs).length≤zag (cs.map Prod.fst):=by
 have key:∀ n,n≤cs.length→(fwd (cs.take n)).length≤zag ((cs.take n).map Prod.fst):=by
  intro n
  induction n with
  |zero=>intro _;simp [fwd,zag]
  |succ n ih =>
   intro hn
   have hc:cs[n]?=some cs[n]:=List.getElem?_eq_getElem (by omega)
   rw [List.take_add_one,hc]
   simp only [Option.toList_some]
   rw [zid,List.map_append,zcO]
   refine Nat.le_trans (flat_len (k:=(cs[n]).2.length) fun x _=>by simp) ?_
   refine Nat.mul_le_mul (ih (by omega)) ?_
   simpa [zag] using h cs[n] (List.getElem_mem _)
 have:=key cs.length (Nat.le_refl _)
 rwa [List.take_length] at this
theorem fwd_lt {cs:List (Nat × List Nat)}(h:∀ c∈cs,∀ x∈c.2,x<c.1):∀ y∈fwd cs,y<zag (cs.map Prod.fst):=by
 have key:∀ n,n≤cs.length→∀ y∈fwd (cs.take n),y<zag ((cs.take n).map Prod.fst):=by
  intro n
  induction n with
  |zero=>intro _ y hy;simp [fwd] at hy;subst hy;simp [zag]
  |succ n ih =>
   intro hn y hy
   have hc:cs[n]?=some cs[n]:=List.getElem?_eq_getElem (by omega)
   rw [List.take_add_one,hc] at hy ⊢
   simp only [Option.toList_some] at hy ⊢
   rw [zid] at hy
   rw [List.map_append,zcO]
   obtain⟨o,ho,hy⟩:=List.mem_flatMap.1 hy
   obtain⟨x,hx,rfl⟩:=List.mem_map.1 hy
   have h1:=ih (by omega) o ho
   have h2:=h cs[n] (List.getElem_mem _) x hx
   simp only [List.map_cons,List.map_nil,zag,Nat.mul_one]
   calc o*(cs[n]).1+x<o*(cs[n]).1+(cs[n]).1:=by omega
    _=(o+1)*(cs[n]).1:=by rw [Nat.add_mul,Nat.one_mul]
    _≤_:=Nat.mul_le_mul_right _ h1
 have:=key cs.length (Nat.le_refl _)
 rwa [List.take_length] at this
theorem zdJ {s:Sys}(h:Sml s):zdB (zdk s):=⟨by have:=h.1;simp only [zdk];omega,fun q l hq hl x hx=>cho_lt h hq x hx⟩
theorem zl {a:Aut}(h:zk a=true):(0≤a.al∧a.al≤63)∧(1≤a.next.length∧a.next.length≤12)∧a.acc.length=a.next.length∧∀ (q:Nat) (row:List Int),a.next[q]?=some row→row.length=(letters a.al.toNat 6).length∧∀ x∈row,0≤x∧x<a.next.length:=by
 simp only [zk,Bool.and_eq_true,decide_eq_true_eq,List.all_eq_true] at h
 obtain⟨h1,h2,h3,h4⟩:=h
 refine⟨h1,h2,h3,fun q row hr=>?_⟩
 have:=h4 row (List.mem_of_getElem? hr)
 simp only [rowB,Bool.and_eq_true,decide_eq_true_eq,List.all_eq_true] at this
 exact this
theorem place_lt {a l:Nat}(hl:l<6)(hb:a.testBit l=true):place a l<(letters a 6).length:=by
 have key:∀ n,l+1≤n→place a l<(letters a n).length:=by
  intro n
  induction n with
  |zero=>intro h;omega
  |succ n ih =>
   intro h
   rw [zaW,List.length_append]
   by_cases e:n=l
   ·subst e
    simp [place,hb]
   ·have:=ih (by omega)
    omega
 exact key 6 (by omega)
theorem zcV {a:Aut}(h:zk a=true) {q l:Nat}(hq:q<a.next.length)(hl:l<6):aGo a q l<a.next.length:=by
 obtain⟨_,_,_,hr⟩:=zl h
 unfold aGo
 split
 ·rename_i hb
  have hrow:a.next[q]?=some a.next[q]:=List.getElem?_eq_getElem hq
  obtain⟨h1,h2⟩:=hr q _ hrow
  have hp:=place_lt hl hb
  rw [← h1] at hp
  have hx:=h2 _ (List.getElem_mem hp)
  simp only [List.getD_eq_getElem?_getD,hrow,Option.getD_some,List.getElem?_eq_getElem hp]
  omega
 ·exact hq
theorem zbg {a:Aut}(h:zk a=true):zdB (zbf a):=⟨(zl h).2.1.1,fun q l hq hl x hx=>by
 simp only [zbf,List.mem_singleton] at hx ⊢
 subst hx
 exact zcV h hq hl⟩
theorem zcZ:zk free=true:=by decide
theorem wrap_pow2 {t:Nat}(ht:t<32):wrap64 ((2:Int) ^ t)=((2 ^ t:Nat):Int):=by
 have hp:=(Sm.bit ht).lt
 have e:(2:Int) ^ t=((2 ^ t:Nat):Int):=by simp
 rw [e]
 generalize (2:Nat) ^ t=p at *
 unfold wrap64
 omega
theorem zfB (n:Nat)(hn:n<32) (w:World) :
  Calls Tryz.prog 241 #[.int .i64 n] w fun e w'=>e=.returned (.int .i64 (2 ^ n:Nat))∧w=w':=by
 have hu:IntKind.u64.wrap (n:Int)=n:=by rw [IntKind.wrap_u64];omega
 have h64:(n:Int)≤64:=by omega
 have hw:=za (wrap_pow2 hn)
 go_enter Tryz.func241,Tryz.ntmps241
 go_wp2
 go_ret
 exact⟨zG (by rw [← hw.out]),rfl⟩
def zbO (es:List Edg) (set:Nat) (l:Int):Nat:=es.foldl (fun m e=>if e.le=l∧set.testBit e.fr.toNat=true then m|||2 ^ e.ta.toNat else m) 0
theorem stepB_snoc (es:List Edg) (e:Edg) (set:Nat) (l:Int):zbO (es++[e]) set l=if e.le=l∧set.testBit e.fr.toNat=true then zbO es set l|||2 ^ e.ta.toNat else zbO es set l:=by simp [zbO]
theorem zdi (es:List Edg) (set:Nat) (l:Int) (k:Nat):(zbO es set l).testBit k=true↔∃ e∈es,(e.le=l∧set.testBit e.fr.toNat=true)∧e.ta.toNat=k:=by
 have:=foldl_bit es (fun e=>e.le=l∧set.testBit e.fr.toNat=true) 0 k
 simpa [zbO] using this
theorem stepB_lt {n:Nat} {es:List Edg}(h:Few n es) (set:Nat) (l:Int):zbO es set l<2 ^ n:=by
 apply Nat.lt_pow_two_of_testBit
 intro k hk
 rw [Bool.eq_false_iff]
 intro hb
 obtain⟨e,he,_,h3⟩:=(zdi es set l k).1 hb
 have:=h e he
 omega
theorem zgL {lo hi:Nat} {A:Option Addr} {n c:Nat} {s:Sys} {set:Nat} {l:Int} {k0:Nat} {w:World}(h:zM w lo hi A n s)(hf:Few k0 s.edges)(hk0:k0≤16)(hset:Sm set) :
  Calls Tryz.prog 221 #[.agg #[.int .i64 s.al,.int .i64 s.st,.slice A n c],.int .i64 set,.int .i64 l] w fun e w'=>e=.returned (.int .i64 (zbO s.edges set l:Nat))∧Ext w w':=by
 have hn:=h.2.len
 have hL:=za h.1
 have HR:=za (fun W (hW:Ext w W)=>h.2.ext hW)
 have Hf:=za hf
 clear hf
 go_enter Tryz.func221,Tryz.ntmps221
 go_wp2
 go_loopw [7,8] (fun v i wr=>∃ k:Nat,k≤n∧i=.int .i64 k∧∃ y:Nat,v=.int .i64 y∧Sm y∧Hid (y=zbO (s.edges.take k) set l)∧Ext w wr∧Ext (w.alloc (.cells #[.int .i64 s.al,.int .i64 s.st,.slice A n c] 38)) wr) (fun _ i _=>n - (intOf i).toNat)
 case atStart=>exact⟨0,Nat.zero_le _,rfl,0,rfl,by unfold Sm;omega,rfl,(Ext.refl _).alloc _,Ext.refl _⟩
 case round =>
  obtain⟨k,hk,rfl,y,rfl,hy,hyo,ziL,hexb⟩:=hrel
  have cb:=fun j=>zct (j:=j) hexb
  by_cases hlt:k<n
  ·obtain⟨b,o,x,rfl,_,_,hx,c0,c1,c2⟩:=(HR.out wr ziL).edge hlt
   obtain⟨⟨f0,f1⟩,⟨g0,g1⟩,⟨t0,t1⟩⟩:=Hf.out x (List.mem_of_getElem? hx.out)
   have Htk:=za (show s.edges.take (k+1)=s.edges.take k++[x] by rw [List.take_add_one,hx.out];rfl)
   obtain⟨f,hfe⟩:∃ f:Nat,x.fr=f:=⟨x.fr.toNat,by omega⟩
   obtain⟨t,hte⟩:∃ t:Nat,x.ta=t:=⟨x.ta.toNat,by omega⟩
   rw [hfe] at c0 f0 f1
   rw [hte] at c2 t0 t1
   have hs1:=za (stepB_snoc (s.edges.take k) x set l)
   by_cases hle:x.le=l
   ·have hle':(x.le==l)=true:=by simp [hle]
    have Hle:=za hle
    clear hle
    cases hb:set.testBit f
    ·have Hb:=za hb
     clear hb
     go_wp2_with (go_at_call 140;refine (zab set f hset _ (by omega)).mono ?_;rw [Hb.out];rintro e w' ⟨rfl,rfl⟩)
     go_roundw
     case rel=>exact⟨k+1,by omega,by go_num,y,rfl,hy,by unfold Hid;rw [Htk.out,hs1.out,if_neg (by rintro ⟨_,h2⟩;rw [hfe] at h2;simp [Hb.out] at h2)];exact hyo.out,ziL,hexb⟩
     case measure=>simp [intOf];omega
    ·have Hb:=za hb
     clear hb
     have hor:=za (show bits .or .i64 (y:Nat) ((2:Int) ^ t)=((y|||2 ^ t:Nat):Int) by have:=zbR hy (Sm.bit (n:=t) (by omega));rw [show (((2:Nat) ^ t:Nat):Int)=(2:Int) ^ t by simp] at this;exact this)
     go_wp2_with (first
      |(go_at_call 140;refine (zab set f hset _ (by omega)).mono ?_;rw [Hb.out];rintro e w' ⟨rfl,rfl⟩)
      |(go_at_call 241;refine (zfB t (by omega) _).mono ?_;rintro e w' ⟨rfl,rfl⟩))
     go_roundw
     case rel=>exact⟨k+1,by omega,by go_num,y|||2 ^ t,by rw [hor.out],hy.or (Sm.bit (by omega)),by unfold Hid;rw [Htk.out,hs1.out,if_pos ⟨Hle.out,by rw [hfe];simpa using Hb.out⟩,← hyo.out,hte];rfl,ziL,hexb⟩
     case measure=>simp [intOf];omega
   ·have hle':(x.le==l)=false:=by simp [hle]
    have Hle:=za hle
    clear hle
    go_wp2
    go_roundw
    case rel=>exact⟨k+1,by omega,by go_num,y,rfl,hy,by unfold Hid;rw [Htk.out,hs1.out,if_neg (by rintro ⟨h2,_⟩;exact Hle.out h2)];exact hyo.out,ziL,hexb⟩
    case measure=>simp [intOf];omega
  ·obtain rfl:n=k:=by omega
   go_wp2
   go_ret
   exact⟨zG (by rw [hyo.out,hL.out,List.take_length]),ziL⟩
def MovAt (w:World) (b:Nat) (es:List Edg):Prop:=∀ i l:Nat,i<16→l<6→w.cell? ⟨b,i*6+l,none⟩=some (.int .i64 (succ es i l:Nat))
theorem MovAt.ext {w w':World} {b:Nat} {es:List Edg}(h:MovAt w b es)(hb:Ext w w'):MovAt w' b es:=fun i l hi hl=>hb.cell_some (h i l hi hl)
theorem bits_andNot {a b:Nat}(ha:Sm a)(hb:Sm b):bits .andNot .i64 (a:Int) (b:Int)=(diff a b:Nat):=by
 have h1:=ha.lt;have h2:=hb.lt
 have hd:=diff_le a b
 show IntKind.i64.wrap ((BitVec.ofInt 64 (a:Int)&&&~~~ BitVec.ofInt 64 (b:Int)).toNat:Int)=_
 have e:(BitVec.ofInt 64 (a:Int)&&&~~~ BitVec.ofInt 64 (b:Int)).toNat=diff a b:=by
  apply Nat.eq_of_testBit_eq
  intro k
  rw [zhY,BitVec.toNat_and,Nat.testBit_and,zda a (by omega),BitVec.testBit_toNat,BitVec.getLsbD_not,← BitVec.testBit_toNat,zda b (by omega)]
  by_cases hk:k<64
  ·simp [hk]
  ·simp only [hk,decide_false,Bool.false_and,Bool.and_false]
   rw [zfi ha (by omega)];rfl
 rw [e,IntKind.wrap_i64]
 omega
def MovB (w:World) (b:Nat) (es:List Edg):Prop:=∃ cs,Blk w b 282 cs∧∀ i l:Nat,i<16→l<6→cs[i*6+l]?=some (.int .i64 (succ es i l:Nat))
theorem MovB.at_ {w:World} {b:Nat} {es:List Edg}(h:MovB w b es):MovAt w b es:=by
 obtain⟨cs,hb,hc⟩:=h
 exact fun i l hi hl=>by rw [hb.cell,hc i l hi hl]
theorem MovB.ext {w w':World} {b:Nat} {es:List Edg}(h:MovB w b es)(hx:Ext w w'):MovB w' b es:=by
 obtain⟨cs,hb,hc⟩:=h
 exact⟨cs,hb.ext hx,hc⟩
theorem zero_mov (w:World):(zeroValue 282).run Tryz.prog w=.ok (.agg (Array.replicate 96 (.int .i64 0))) w:=by kernel_rfl
theorem wrap_pow {t:Nat}(ht:t<32):wrap64 ((2:Int) ^ t)=((2 ^ t:Nat):Int):=by
 have hp:=(Sm.bit ht).lt
 have e:(2:Int) ^ t=((2 ^ t:Nat):Int):=by simp
 rw [e]
 generalize (2:Nat) ^ t=p at *
 unfold wrap64
 omega
theorem mov_store {cs:Array Value} {es:List Edg} {f g t i l:Nat}(hcs:∀ i l:Nat,i<16→l<6→cs[i*6+l]?=some (.int .i64 (succ es i l:Nat)))(hs:Sm (succ es f g))(ht:t<16)(hf:f<16)(hg:g<6)(hi:i<16)(hl:l<6) :
  (cs.setIfInBounds (f*6+g) (.int .i64 (bits .or .i64 (succ es f g:Nat) (wrap64 (2 ^ t)))))[i*6+l]?=some (.int .i64 ((if (f:Int)=i∧(g:Int)=l then succ es i l|||2 ^ (t:Int).toNat else succ es i l:Nat))):=by
 rw [wrap_pow (by omega),zbR hs (Sm.bit (by omega)),Array.getElem?_setIfInBounds]
 by_cases he:f*6+g=i*6+l
 ·have e1:f=i:=by omega
  have e2:g=l:=by omega
  subst e1;subst e2
  have hsz:f*6+g<cs.size:=by
   rcases Nat.lt_or_ge (f*6+g) cs.size with h1|h1
   ·exact h1
   ·have:=hcs f g hf hg
    rw [Array.getElem?_eq_none h1] at this
    cases this
  rw [if_pos rfl,if_pos hsz,if_pos ⟨rfl,rfl⟩]
  rfl
 ·rw [if_neg he,hcs i l hi hl,if_neg]
  rintro ⟨h1,h2⟩
  exact he (by omega)
theorem zdE {lo hi:Nat} {A:Option Addr} {n c:Nat} {s:Sys} {w:World}(h:zM w lo hi A n s)(hf:Few 16 s.edges) :
  Calls Tryz.prog 227 #[.agg #[.int .i64 s.al,.int .i64 s.st,.slice A n c]] w fun e w'=>∃ b,e=.returned (.pointer (some ⟨b,0,none⟩))∧w.heap.size≤b∧MovB w' b s.edges∧Ext w w':=by
 have hn:=h.2.len
 have hL:=za h.1
 have hR:=fun W (hW:Ext w W)=>h.2.ext hW
 have HR:=za hR
 clear hR
 have Hf:=za hf
 clear hf
 go_enter Tryz.func227,Tryz.ntmps227
 have hz:=zero_mov
 generalize hzz:Array.replicate 96 (Value.int .i64 0)=zs at hz
 have Hz:=za hzz
 clear hzz
 go_wp2_with (simp only [hz])
 go_loopw [10] (fun i wr=>∃ k:Nat,k≤n∧i=.int .i64 k∧MovB wr (w.heap.size+1) (s.edges.take k)∧Ext w wr) (fun i _=>n - (intOf i).toNat)
 case atStart=>exact⟨0,Nat.zero_le _,rfl,⟨zs,by have:=Blk.new (w.alloc (.cells #[.int .i64 s.al,.int .i64 s.st,.slice A n c] 38)) 282 zs;simpa using this,fun i l hi hl=>by rw [← Hz.out,Array.getElem?_replicate,if_pos (by omega)];rfl⟩,((Ext.refl _).alloc _).alloc _⟩
 case round =>
  obtain⟨k,hk,rfl,hmov,ziL⟩:=hrel
  by_cases hlt:k<n
  ·obtain⟨b,o,x,rfl,hlo,hhi,hx,c0,c1,c2⟩:=(HR.out wr ziL).edge hlt
   obtain⟨⟨f0,f1⟩,⟨g0,g1⟩,⟨t0,t1⟩⟩:=Hf.out x (List.mem_of_getElem? hx.out)
   obtain⟨f,hf⟩:∃ f:Nat,x.fr=f:=⟨x.fr.toNat,by omega⟩
   obtain⟨g,hg⟩:∃ g:Nat,x.le=g:=⟨x.le.toNat,by omega⟩
   obtain⟨t,ht⟩:∃ t:Nat,x.ta=t:=⟨x.ta.toNat,by omega⟩
   rw [hf] at c0 f0 f1
   rw [hg] at c1 g0 g1
   rw [ht] at c2 t0 t1
   have hf':f<16:=by omega
   have hg':g<6:=by omega
   have ht':t<16:=by omega
   clear f0 f1 g0 g1 t0 t1
   obtain⟨cs,hblk,hcs⟩:=hmov
   have hs1:Sm (succ (s.edges.take k) f g):=succ_sm (n:=16) (fun e he=>Hf.out e (List.mem_of_mem_take he)) (by omega) f g
   go_wp2
   have hxq:=(Ext.refl wr).alloc (.cells #[.int .i64 f,.int .i64 g,.int .i64 t] 152)
   have hbq:=Blk.new wr 152 #[.int .i64 f,.int .i64 g,.int .i64 t]
   generalize hq:wr.alloc (.cells #[.int .i64 f,.int .i64 g,.int .i64 t] 152)=wq at *
   clear hq
   have hblq:=hblk.ext hxq
   have hd:wq.cell? ⟨w.heap.size+1,f*6+g,none⟩=some (.int .i64 (succ (s.edges.take k) f g:Nat)):=by rw [hblq.cell,hcs f g hf' hg']
   have hfz:=hblq.frozen (f*6+g)
   have q0:=hbq.cell 0
   have q1:=hbq.cell 1
   have q2:=hbq.cell 2
   go_still_tail 16,(by kernel_rfl)
   have f1:(f:Int)<16:=by omega
   have g1:(g:Int)<6:=by omega
   have t1:(t:Int)≤64:=by omega
   repeat (refine wpStill_step (fun K hK=>?_);go_simp;(try simp only [f1,g1,t1,if_true]);refine hK _ ?_;clear hK K)
   refine wpStill_nil ?_
   change wpList _ _ _ _ _ wq.drew
   have hd2:wq.drew.cell? ⟨w.heap.size+1,f*6+g,none⟩=some (.int .i64 (succ (s.edges.take k) f g:Nat)):=hd
   have hfz2:wq.drew.frozen? ⟨w.heap.size+1,f*6+g,none⟩=false:=hfz
   have hblq2:Blk wq.drew (w.heap.size+1) 282 cs:=hblq
   have hxq2:Ext wr wq.drew:=hxq.drew
   generalize wq.drew=w2 at *
   have Hu:=za (succ_snoc (s.edges.take k) x)
   have Htk:=za (show s.edges.take (k+1)=s.edges.take k++[x] by rw [List.take_add_one,hx.out];rfl)
   go_wp2
   go_roundw
   case rel=>exact⟨k+1,by omega,by go_num,⟨_,hblq2.set_ (f*6+g) _,fun i l hi hl=>by
    rw [Htk.out,Hu.out,hf,hg,ht]
    exact mov_store hcs hs1 ht' hf' hg' hi hl⟩,(ziL.trans hxq2).setCell (by dsimp only;omega) _⟩
   case measure=>simp [intOf];omega
  ·obtain rfl:k=n:=by omega
   go_wp2
   go_ret
   rw [hL.out,List.take_length] at hmov
   exact⟨_,rfl,by omega,hmov,ziL⟩
theorem zfZ (R:List Nat) (i v:Nat):zS (R.set i v)=(zS R).set i (.int .i64 (v:Nat)):=by simp [zS,List.map_set]
def zhV (x y:Int):Int:=if x<y then -1 else if y<x then 1 else 0
theorem cmp_isNaN (x:Int) (w:World):Calls Tryz.prog 278 #[.int .i64 x] w fun e w'=>e=.returned (.bool false)∧w=w':=by
 have h:(x != x)=false:=by simp
 go_enter Tryz.func278,Tryz.ntmps278
 go_wp2
 go_ret
 exact⟨zj (by simp),rfl⟩
theorem cmp_Compare (x y:Int) (w:World):Calls Tryz.prog 248 #[.int .i64 x,.int .i64 y] w fun e w'=>e=.returned (.int .i64 (zhV x y))∧w=w':=by
 by_cases h:x<y
 ·go_enter Tryz.func248,Tryz.ntmps248
  go_wp2_with (go_at_call 278;refine (cmp_isNaN _ _).mono ?_;rintro e w' ⟨rfl,rfl⟩)
  go_ret
  exact⟨zG (by unfold zhV;split<;>omega),rfl⟩
 ·by_cases h':y<x
  all_goals
   go_enter Tryz.func248,Tryz.ntmps248
   go_wp2_with (go_at_call 278;refine (cmp_isNaN _ _).mono ?_;rintro e w' ⟨rfl,rfl⟩)
   go_ret
   exact⟨zG (by unfold zhV;(repeat' split)<;>omega),rfl⟩
def orI:List Int→Int
 |[]=>0
 |x :: r=>if x=0 then orI r else x
theorem orI_stop {l:List Int} {k:Nat} {x:Int}(h:l[k]?=some x)(hk:∀ y∈l.take k,y=0)(hx:x≠0):orI l=x:=by
 induction l generalizing k with
 |nil=>simp at h
 |cons a r ih =>
  cases k with
  |zero=>simp at h;subst h;rw [orI,if_neg hx]
  |succ k =>
   have ha:a=0:=hk a (by simp)
   rw [orI,if_pos ha]
   exact ih (by simpa using h) (fun y hy=>hk y (by simp [hy]))
theorem orI_end {l:List Int}(hk:∀ y∈l,y=0):orI l=0:=by
 induction l with
 |nil=>rfl
 |cons a r ih=>rw [orI,if_pos (hk a (by simp)),ih fun y hy=>hk y (by simp [hy])]
theorem cmp_Or {lo hi:Nat} {A:Option Addr} {n c:Nat} {l:List Int} {w:World}(h:Reads w lo hi 1 A n (ints l)) :
  Calls Tryz.prog 247 #[.slice A n c] w fun e w'=>e=.returned (.int .i64 (orI l))∧w=w':=by
 have hn:=h.len
 have Hl:=za (show l.length=n by have:=h.length;rw [zbU] at this;omega)
 go_enter Tryz.func247,Tryz.ntmps247
 go_wp2
 go_loop [8] (fun i=>∃ k:Nat,k≤n∧i=.int .i64 k∧Hid (∀ y∈l.take k,y=0)) (fun i=>n - (intOf i).toNat)
 case atStart=>exact⟨0,Nat.zero_le _,rfl,za (by simp)⟩
 case round =>
  obtain⟨k,hk,rfl,hz⟩:=hrel
  by_cases hlt:k<n
  ·obtain⟨ad,x,rfl,_,_,hx,hc⟩:=h.int hlt
   by_cases h0:x=0
   ·have hb:((x:Int) != 0)=false:=by simp [h0]
    have H0:=za h0
    clear h0
    go_wp2
    go_round
    case rel=>exact⟨k+1,by omega,by go_num,za (by rw [List.take_add_one,hx.out];intro y hy;simp at hy;rcases hy with hy|hy;exact hz.out y hy;rw [hy,H0.out])⟩
    case measure=>simp [intOf];omega
   ·have hb:((x:Int) != 0)=true:=by simp [h0]
    go_wp2
    go_ret
    exact⟨zG (orI_stop hx.out hz.out h0).symm,rfl⟩
  ·obtain rfl:k=n:=by omega
   go_wp2
   go_ret
   have:=hz.out
   rw [List.take_of_length_le (by have:=Hl.out;omega)] at this
   exact⟨zG (orI_end this).symm,rfl⟩
def cmpE (a b:Edg):Int:=orI [zhV a.fr b.fr,zhV a.le b.le,zhV a.ta b.ta]
def ltE (a b:Edg):Bool:=if a.fr=b.fr then if a.le=b.le then decide (a.ta<b.ta) else decide (a.le<b.le) else decide (a.fr<b.fr)
theorem cmpE_lt (a b:Edg):cmpE a b<0↔ltE a b=true:=by
 have hc:∀ x y:Int,(zhV x y=0↔x=y)∧(zhV x y<0↔x<y):=fun x y=>by unfold zhV;constructor<;>(repeat' split)<;>omega
 have h1:=hc a.fr b.fr
 have h2:=hc a.le b.le
 have h3:=hc a.ta b.ta
 have hv:cmpE a b=if zhV a.fr b.fr=0 then if zhV a.le b.le=0 then if zhV a.ta b.ta=0 then 0 else zhV a.ta b.ta else zhV a.le b.le else zhV a.fr b.fr:=rfl
 rw [hv,ltE]
 by_cases e1:a.fr=b.fr
 ·rw [if_pos (h1.1.2 e1),if_pos e1]
  by_cases e2:a.le=b.le
  ·rw [if_pos (h2.1.2 e2),if_pos e2]
   by_cases e3:zhV a.ta b.ta=0
   ·rw [if_pos e3];have:=h3.1.1 e3;simp;omega
   ·rw [if_neg e3,h3.2];simp
  ·rw [if_neg (fun h=>e2 (h2.1.1 h)),if_neg e2,h2.2];simp
 ·rw [if_neg (fun h=>e1 (h1.1.1 h)),if_neg e1,h1.2];simp
theorem reads_lit {w w':World} {cs:Array Value} {t:TypeId} (n:Nat) (l:List Int)(hc:cs.toList=ints l)(hl:l.length=n)(hn:n≤1000)(h:Ext (w.alloc (.cells cs t)) w'):Reads w' 0 w'.heap.size 1 (some ⟨w.heap.size,0,none⟩) n (ints l):=by
 have hb:=zdS h
 refine⟨by rw [zbU];omega,by omega,fun _=>⟨_,rfl,Nat.zero_le _,hb.lt,fun j u hu=>?_⟩⟩
 rw [zaE,Nat.zero_add,hb.cell,← Array.getElem?_toList,hc]
 exact hu
theorem zdb {a b:Edg} {w:World} :
  Calls Tryz.prog 187 #[.agg #[.int .i64 a.fr,.int .i64 a.le,.int .i64 a.ta],.agg #[.int .i64 b.fr,.int .i64 b.le,.int .i64 b.ta]] w fun e w'=>e=.returned (.int .i64 (cmpE a b))∧Ext w w':=by
 go_enter Tryz.func187,Tryz.ntmps187
 go_wp2_with fail
 obtain⟨W,hW⟩:∃ W:World,W=(w.alloc (.cells #[Value.int .i64 a.fr,.int .i64 a.le,.int .i64 a.ta] 152)).alloc (.cells #[Value.int .i64 b.fr,.int .i64 b.le,.int .i64 b.ta] 152):=⟨_,rfl⟩
 have hx:Ext w W:=by rw [hW];exact ((Ext.refl _).alloc _).alloc _
 have h2:=zE (show Ext ((w.alloc (.cells #[Value.int .i64 a.fr,.int .i64 a.le,.int .i64 a.ta] 152)).alloc (.cells #[Value.int .i64 b.fr,.int .i64 b.le,.int .i64 b.ta] 152)) W by rw [hW];exact Ext.refl _)
 have e0:∀ X,Ext W X→∀ j,X.cell? ⟨w.heap.size,j,none⟩=#[Value.int .i64 a.fr,.int .i64 a.le,.int .i64 a.ta][j]?:=fun X hX=>(h2.1.ext hX).cell
 have e1:∀ X,Ext W X→∀ j,X.cell? ⟨w.heap.size+1,j,none⟩=#[Value.int .i64 b.fr,.int .i64 b.le,.int .i64 b.ta][j]?:=fun X hX=>(h2.2.ext hX).cell
 rw [← hW]
 have hr:=Ext.refl W
 clear hW h2
 go_region_held3 (fun X=>Ext W X) (first|assumption|(refine Ext.drew ?_;assumption)|(refine Ext.alloc ?_ _;assumption)|(refine Ext.drew ?_;refine Ext.alloc ?_ _;assumption)|(refine Ext.trans ?_ (by assumption);assumption)) (first|(go_at_call 248;refine (cmp_Compare _ _ _).mono ?_;rintro e w' ⟨rfl,rfl⟩)|(go_at_call 247;refine (cmp_Or (reads_lit 3 [zhV a.fr b.fr,zhV a.le b.le,zhV a.ta b.ta] rfl rfl (by omega) ((Ext.refl _).drew))).mono ?_;rintro e w' ⟨rfl,rfl⟩))
 all_goals (go_wp2_with fail;go_ret;exact⟨rfl,hx.trans (by first|assumption|(refine Ext.drew ?_;assumption)|(refine Ext.alloc ?_ _;assumption)|(refine Ext.drew ?_;refine Ext.alloc ?_ _;assumption))⟩)
theorem zX {al st:Int} {A:Option Addr} {n c:Nat} {q:Int} {w:World} :
  Calls Tryz.prog 186 #[.agg #[.int .i64 al,.int .i64 st,.slice A n c],.int .i64 q] w fun e w'=>e=.returned (.bool (decide (0≤q)&&decide (q<st)))∧Ext w w':=by
 by_cases h0:0≤q
 all_goals
  go_enter Tryz.func186,Tryz.ntmps186
  go_wp2
  go_ret
  exact⟨zj (by simp;try omega),(Ext.refl _).alloc _⟩
def edgB (al:Nat) (st:Int) (e:Edg):Bool:=(decide (0≤e.fr)&&decide (e.fr<st))&&((decide (0≤e.ta)&&decide (e.ta<st))&&(decide (e.le<6)&&hasB al e.le))
def zaS (al:Nat) (st:Int) (l:List Edg) (k:Nat):Bool:=
 match l[k]? with
 |some e=>edgB al st e&&(decide (k=0) || match l[k - 1]? with
  |some p=>ltE p e
  |none=>false)
 |none=>false
def zn (s:Sys):Bool:=
 decide (0≤s.al∧s.al≤63)&&(decide (1≤s.st∧s.st≤16)&&(List.range s.edges.length).all (zaS s.al.toNat s.st s.edges))
theorem zaN {lo hi:Nat} {A:Option Addr} {n c:Nat} {s:Sys} {w:World}(h:zM w lo hi A n s) :
  Calls Tryz.prog 108 #[.agg #[.int .i64 s.al,.int .i64 s.st,.slice A n c]] w fun e w'=>e=.returned (.bool (zn s))∧Ext w w':=by
 have Hv:=za (show zn s=(decide (0≤s.al∧s.al≤63)&&(decide (1≤s.st∧s.st≤16)&&(List.range n).all (zaS s.al.toNat s.st s.edges))) by unfold zn;rw [← h.1])
 have hn:=h.2.len
 by_cases hal:0≤s.al∧s.al≤63
 ·by_cases hst:1≤s.st∧s.st≤16
  ·obtain⟨al,hal'⟩:∃ al:Nat,Hid (s.al=al):=⟨s.al.toNat,by unfold Hid;omega⟩
   have hsm:Sm al:=by have:=hal'.out;unfold Sm;omega
   have hd:=za (show decide (0≤(al:Int)∧(al:Int)≤63)=true by have:=hal'.out;simp;omega)
   rw [hal'.out]
   rw [hal'.out,Int.toNat_natCast] at Hv
   clear hal
   have hd1:decide (s.st<1)=false:=by simp;omega
   have hd2:decide (16<s.st)=false:=by simp;omega
   obtain⟨st,hst',hs1,hs2⟩:∃ st:Int,Hid (s.st=st)∧1≤st∧st≤16:=⟨s.st,za rfl,hst.1,hst.2⟩
   rw [hst'.out] at hd1 hd2 Hv ⊢
   clear hst
   have hR:=fun W (hW:Ext w W)=>h.2.ext hW
   have HR:=za hR
   clear hR
   go_enter Tryz.func108,Tryz.ntmps108
   go_wp2_with (go_at_call 173;refine (zR _ _).mono ?_;rw [hd.out];rintro e w' ⟨rfl,rfl⟩)
   go_loopw [22] (fun i wr=>∃ k:Nat,k≤n∧i=.int .i64 k∧Hid (((List.range n).take k).all (zaS al st s.edges)=true)∧Ext (w.alloc (.cells #[Value.int .i64 al,.int .i64 st,Value.slice A n c] 38)) wr)
    (fun i _=>n - (intOf i).toNat)
   case atStart=>exact⟨0,Nat.zero_le _,rfl,rfl,Ext.refl _⟩
   case round =>
    obtain⟨k,hk,rfl,hall,ziL⟩:=hrel
    by_cases hlt:k<n
    ·obtain⟨b,o,e,rfl,hlo,hhi,he,c0,c1,c2⟩:=(HR.out wr (((Ext.refl _).alloc _).trans ziL)).edge hlt
     have hbx:=zct ziL
     go_wp2_with fail
     obtain⟨W,hW⟩:∃ W:World,W=wr.alloc (.cells #[Value.int .i64 e.fr,.int .i64 e.le,.int .i64 e.ta] 152):=⟨_,rfl⟩
     have hx:Ext wr W:=by rw [hW];exact (Ext.refl _).alloc _
     have h1:=zdS (show Ext (wr.alloc (.cells #[Value.int .i64 e.fr,.int .i64 e.le,.int .i64 e.ta] 152)) W by rw [hW];exact Ext.refl _)
     have e0:∀ X,Ext W X→∀ j,X.cell? ⟨w.heap.size,j,none⟩=#[Value.int .i64 al,.int .i64 st,Value.slice (some ⟨b,o,none⟩) n c][j]?:=fun X hX=>zct ((ziL.trans hx).trans hX)
     have e1:∀ X,Ext W X→∀ j,X.cell? ⟨wr.heap.size,j,none⟩=#[Value.int .i64 e.fr,.int .i64 e.le,.int .i64 e.ta][j]?:=fun X hX=>(h1.ext hX).cell
     rw [← hW]
     have hr:=Ext.refl W
     clear hW h1 hbx c0 c1 c2
     have ziM:∀ X,Ext W X→Ext w X:=fun X hX=>((((Ext.refl _).alloc _).trans ziL).trans hx).trans hX
     have Hfin:=za ziM
     clear ziM
     have hge:(List.range n)[k]?=some k:=by rw [List.getElem?_range hlt]
     have Hge:=za hge
     clear hge
     cases hA:(decide (0≤e.fr)&&decide (e.fr<st))
     ·have HA:=za hA
      clear hA
      have hA:=HA;clear HA
      refine zaa (fun X=>Ext W X) [0,1,2,3,4,5,6,7,8,9,10,11,12,13,14,15,16,17,18,19,20,21,22,23,24,25,26,27,28,29,30,31,32,33,34,35,36,37,38,39] (by kernel_rfl) rfl (by kernel_rfl) (by kernel_rfl) (fun _ _ _ _ _ h=>h) ((Ext.refl _).drew) (fun hS=>?_)
      refine sQ ?_
      refine zU (fun K hK=>?_)
      go_simp
      refine (zX).mono ?_
      rw [hA.out];rintro r w2 ⟨rfl,hx2⟩
      refine hK.out _ _ (Ext.trans (by assumption) hx2) (fun hS=>?_)
      refine pT ?_
      refine sQ ?_
      refine zcy ?_
      go_wp2_with fail
      go_ret
      exact⟨zj (by rw [Hv.out,zat Hge.out (by rw [zaS,he.out];dsimp only;rw [edgB,hA.out];simp)];simp),Hfin.out _ (by assumption)⟩
     ·have HA:=za hA
      clear hA
      have hA:=HA;clear HA
      cases hB:(decide (0≤e.ta)&&decide (e.ta<st))
      ·have HB:=za hB
       clear hB
       have hB:=HB;clear HB
       refine zaa (fun X=>Ext W X) [0,1,2,3,4,5,6,7,8,9,10,11,12,13,14,15,16,17,18,19,20,21,22,23,24,25,26,27,28,29,30,31,32,33,34,35,36,37,38,39] (by kernel_rfl) rfl (by kernel_rfl) (by kernel_rfl) (fun _ _ _ _ _ h=>h) ((Ext.refl _).drew) (fun hS=>?_)
       refine sQ ?_
       refine zU (fun K hK=>?_)
       go_simp
       refine (zX).mono ?_
       rw [hA.out];rintro r w2 ⟨rfl,hx2⟩
       refine hK.out _ _ (Ext.trans (by assumption) hx2) (fun hS=>?_)
       refine pT ?_
       refine sQ ?_
       refine zU (fun K hK=>?_)
       go_simp
       refine (zX).mono ?_
       rw [hB.out];rintro r w3 ⟨rfl,hx3⟩
       refine hK.out _ _ (Ext.trans (by assumption) hx3) (fun hS=>?_)
       refine pT ?_
       refine sQ ?_
       refine zcy ?_
       go_wp2_with fail
       go_ret
       exact⟨zj (by rw [Hv.out,zat Hge.out (by rw [zaS,he.out];dsimp only;rw [edgB,hA.out,hB.out];simp)];simp),Hfin.out _ (by assumption)⟩
      ·have HB:=za hB
       clear hB
       have hB:=HB;clear HB
       by_cases hle:6≤e.le
       ·have hL:decide (6≤e.le)=true:=by simp;omega
        refine zaa (fun X=>Ext W X) [0,1,2,3,4,5,6,7,8,9,10,11,12,13,14,15,16,17,18,19,20,21,22,23,24,25,26,27,28,29,30,31,32,33,34,35,36,37,38,39] (by kernel_rfl) rfl (by kernel_rfl) (by kernel_rfl) (fun _ _ _ _ _ h=>h) ((Ext.refl _).drew) (fun hS=>?_)
        refine sQ ?_
        refine zU (fun K hK=>?_)
        go_simp
        refine (zX).mono ?_
        rw [hA.out];rintro r w2 ⟨rfl,hx2⟩
        refine hK.out _ _ (Ext.trans (by assumption) hx2) (fun hS=>?_)
        refine pT ?_
        refine sQ ?_
        refine zU (fun K hK=>?_)
        go_simp
        refine (zX).mono ?_
        rw [hB.out];rintro r w3 ⟨rfl,hx3⟩
        refine hK.out _ _ (Ext.trans (by assumption) hx3) (fun hS=>?_)
        refine pT ?_
        refine sQ ?_
        refine zcy ?_
        go_wp2_with fail
        go_ret
        exact⟨zj (by rw [Hv.out,zat Hge.out (by rw [zaS,he.out];dsimp only;rw [edgB,hA.out,hB.out];simp;omega)];simp),Hfin.out _ (by assumption)⟩
       ·have hL:decide (6≤e.le)=false:=by simp;omega
        have hlt6:=za (show decide (e.le<6)=true by simp;omega)
        cases hC:hasB al e.le
        ·have HC:=za hC
         clear hC
         have hC:=HC;clear HC
         refine zaa (fun X=>Ext W X) [0,1,2,3,4,5,6,7,8,9,10,11,12,13,14,15,16,17,18,19,20,21,22,23,24,25,26,27,28,29,30,31,32,33,34,35,36,37,38,39] (by kernel_rfl) rfl (by kernel_rfl) (by kernel_rfl) (fun _ _ _ _ _ h=>h) ((Ext.refl _).drew) (fun hS=>?_)
         refine sQ ?_
         refine zU (fun K hK=>?_)
         go_simp
         refine (zX).mono ?_
         rw [hA.out];rintro r w2 ⟨rfl,hx2⟩
         refine hK.out _ _ (Ext.trans (by assumption) hx2) (fun hS=>?_)
         refine pT ?_
         refine sQ ?_
         refine zU (fun K hK=>?_)
         go_simp
         refine (zX).mono ?_
         rw [hB.out];rintro r w3 ⟨rfl,hx3⟩
         refine hK.out _ _ (Ext.trans (by assumption) hx3) (fun hS=>?_)
         refine pT ?_
         refine sQ ?_
         refine zU (fun K hK=>?_)
         go_simp
         refine (zbp _ _ hsm _).mono ?_
         rw [hC.out];rintro r w4 ⟨rfl,rfl⟩
         refine hK.out _ _ (by assumption) (fun hS=>?_)
         refine pT ?_
         refine sQ ?_
         refine zcy ?_
         go_wp2_with fail
         go_ret
         exact⟨zj (by rw [Hv.out,zat Hge.out (by rw [zaS,he.out];dsimp only;rw [edgB,hA.out,hB.out,hC.out];simp)];simp),Hfin.out _ (by assumption)⟩
        ·have HC:=za hC
         clear hC
         have hC:=HC;clear HC
         have hedg:=za (show edgB al st e=true by rw [edgB,hA.out,hB.out,hC.out,hlt6.out];rfl)
         by_cases hk0:k=0
         ·subst hk0
          refine zaa (fun X=>Ext W X) [0,1,2,3,4,5,6,7,8,9,10,11,12,13,14,15,16,17,18,19,20,21,22,23,24,25,26,27,28,29,30,31,32,33,34,35,36,37,38,39] (by kernel_rfl) rfl (by kernel_rfl) (by kernel_rfl) (fun _ _ _ _ _ h=>h) ((Ext.refl _).drew) (fun hS=>?_)
          refine sQ ?_
          refine zU (fun K hK=>?_)
          go_simp
          refine (zX).mono ?_
          rw [hA.out];rintro r w2 ⟨rfl,hx2⟩
          refine hK.out _ _ (Ext.trans (by assumption) hx2) (fun hS=>?_)
          refine pT ?_
          refine sQ ?_
          refine zU (fun K hK=>?_)
          go_simp
          refine (zX).mono ?_
          rw [hB.out];rintro r w3 ⟨rfl,hx3⟩
          refine hK.out _ _ (Ext.trans (by assumption) hx3) (fun hS=>?_)
          refine pT ?_
          refine sQ ?_
          refine zU (fun K hK=>?_)
          go_simp
          refine (zbp _ _ hsm _).mono ?_
          rw [hC.out];rintro r w4 ⟨rfl,rfl⟩
          refine hK.out _ _ (by assumption) (fun hS=>?_)
          refine pT ?_
          refine sQ ?_
          refine zcy ?_
          go_wp2_with fail
          go_roundw
          case rel=>exact⟨0+1,by omega,by go_num,zbZ Hge.out hall.out (by rw [zaS,he.out];dsimp only;rw [hedg.out];simp),(ziL.trans hx).trans (by assumption)⟩
          case measure=>simp [intOf];omega
         ·obtain⟨j,rfl⟩:∃ j,k=j+1:=⟨k - 1,by omega⟩
          have hp:s.edges[j]?=some (s.edges[j]'(by have:=h.1;omega)):=List.getElem?_eq_getElem _
          generalize s.edges[j]'(by have:=h.1;omega)=p at hp
          have Hp:=za hp
          clear hp
          have hpc:=(HR.out wr (((Ext.refl _).alloc _).trans ziL)).edge2 Hp.out
          have p0:∀ X,Ext W X→X.cell? ⟨b,o+j*3,none⟩=some (.int .i64 p.fr):=fun X hX=>(hx.trans hX).cell_some hpc.1
          have p1:∀ X,Ext W X→X.cell? ⟨b,o+j*3+1,none⟩=some (.int .i64 p.le):=fun X hX=>(hx.trans hX).cell_some hpc.2.1
          have p2:∀ X,Ext W X→X.cell? ⟨b,o+j*3+2,none⟩=some (.int .i64 p.ta):=fun X hX=>(hx.trans hX).cell_some hpc.2.2
          clear hpc
          have hk1:decide ((0:Int)<(j:Int)+1)=true:=decide_eq_true (by omega)
          have hw1:IntKind.i64.wrap ((j:Int)+1 - 1)=(j:Int):=by rw [IntKind.wrap_i64];omega
          have hw2:IntKind.i64.wrap (j:Int)=(j:Int):=by rw [IntKind.wrap_i64];omega
          have hj0:(0:Int)≤(j:Int):=by omega
          have hj1:(j:Int)<(n:Int):=by omega
          have hpl:=cmpE_lt p e
          have Hpl:=za hpl
          clear hpl
          by_cases hc:0≤cmpE p e
          ·have hcd:decide (0≤cmpE p e)=true:=by simpa using hc
           have hnl:=za (show ltE p e=false by rw [Bool.eq_false_iff];intro hh;have:=Hpl.out.2 hh;omega)
           refine zaa (fun X=>Ext W X) [0,1,2,3,4,5,6,7,8,9,10,11,12,13,14,15,16,17,18,19,20,21,22,23,24,25,26,27,28,29,30,31,32,33,34,35,36,37,38,39] (by kernel_rfl) rfl (by kernel_rfl) (by kernel_rfl) (fun _ _ _ _ _ h=>h) ((Ext.refl _).drew) (fun hS=>?_)
           refine sQ ?_
           refine zU (fun K hK=>?_)
           go_simp
           refine (zX).mono ?_
           rw [hA.out];rintro r w2 ⟨rfl,hx2⟩
           refine hK.out _ _ (Ext.trans (by assumption) hx2) (fun hS=>?_)
           refine pT ?_
           refine sQ ?_
           refine zU (fun K hK=>?_)
           go_simp
           refine (zX).mono ?_
           rw [hB.out];rintro r w3 ⟨rfl,hx3⟩
           refine hK.out _ _ (Ext.trans (by assumption) hx3) (fun hS=>?_)
           refine pT ?_
           refine sQ ?_
           refine zU (fun K hK=>?_)
           go_simp
           refine (zbp _ _ hsm _).mono ?_
           rw [hC.out];rintro r w4 ⟨rfl,rfl⟩
           refine hK.out _ _ (by assumption) (fun hS=>?_)
           refine pT ?_
           refine sQ ?_
           refine zU (fun K hK=>?_)
           go_simp
           refine (zdb (a:=p) (b:=e)).mono ?_
           rintro r w5 ⟨rfl,hx5⟩
           refine hK.out _ _ (Ext.trans (by assumption) hx5) (fun hS=>?_)
           refine pT ?_
           refine sQ ?_
           refine zcy ?_
           go_wp2_with fail
           go_ret
           exact⟨zj (by rw [Hv.out,zat Hge.out (by rw [zaS,he.out];dsimp only;rw [Nat.add_sub_cancel,Hp.out];simp [hnl.out])];simp),Hfin.out _ (by assumption)⟩
          ·have hcd:decide (0≤cmpE p e)=false:=by simp;omega
           have hnl:=za (show ltE p e=true from Hpl.out.1 (by omega))
           refine zaa (fun X=>Ext W X) [0,1,2,3,4,5,6,7,8,9,10,11,12,13,14,15,16,17,18,19,20,21,22,23,24,25,26,27,28,29,30,31,32,33,34,35,36,37,38,39] (by kernel_rfl) rfl (by kernel_rfl) (by kernel_rfl) (fun _ _ _ _ _ h=>h) ((Ext.refl _).drew) (fun hS=>?_)
           refine sQ ?_
           refine zU (fun K hK=>?_)
           go_simp
           refine (zX).mono ?_
           rw [hA.out];rintro r w2 ⟨rfl,hx2⟩
           refine hK.out _ _ (Ext.trans (by assumption) hx2) (fun hS=>?_)
           refine pT ?_
           refine sQ ?_
           refine zU (fun K hK=>?_)
           go_simp
           refine (zX).mono ?_
           rw [hB.out];rintro r w3 ⟨rfl,hx3⟩
           refine hK.out _ _ (Ext.trans (by assumption) hx3) (fun hS=>?_)
           refine pT ?_
           refine sQ ?_
           refine zU (fun K hK=>?_)
           go_simp
           refine (zbp _ _ hsm _).mono ?_
           rw [hC.out];rintro r w4 ⟨rfl,rfl⟩
           refine hK.out _ _ (by assumption) (fun hS=>?_)
           refine pT ?_
           refine sQ ?_
           refine zU (fun K hK=>?_)
           go_simp
           refine (zdb (a:=p) (b:=e)).mono ?_
           rintro r w5 ⟨rfl,hx5⟩
           refine hK.out _ _ (Ext.trans (by assumption) hx5) (fun hS=>?_)
           refine pT ?_
           refine sQ ?_
           refine zcy ?_
           go_wp2_with fail
           go_roundw
           case rel=>exact⟨j+1+1,by omega,by go_num,zbZ Hge.out hall.out (by rw [zaS,he.out];dsimp only;rw [Nat.add_sub_cancel,Hp.out,hedg.out];simp [hnl.out]),(ziL.trans hx).trans (by assumption)⟩
           case measure=>simp [intOf];omega
    ·obtain rfl:k=n:=by omega
     go_wp2
     go_ret
     exact⟨zj (by rw [Hv.out,zdD (by simp) hall.out,hd.out];simp;omega),((Ext.refl _).alloc _).trans ziL⟩
  ·go_enter Tryz.func108,Tryz.ntmps108
   have hd:=za (show decide (0≤s.al∧s.al≤63)=true by simp;omega)
   go_wp2_with (go_at_call 173;refine (zR _ _).mono ?_;rw [hd.out];rintro e w' ⟨rfl,rfl⟩)
   all_goals go_ret
   all_goals exact⟨zj (by rw [Hv.out];simp [hst]),(Ext.refl _).alloc _⟩
 ·go_enter Tryz.func108,Tryz.ntmps108
  have hd:=za (show decide (0≤s.al∧s.al≤63)=false by simp;omega)
  go_wp2_with (go_at_call 173;refine (zR _ _).mono ?_;rw [hd.out];rintro e w' ⟨rfl,rfl⟩)
  go_ret
  exact⟨zj (by rw [Hv.out];simp;omega),(Ext.refl _).alloc _⟩
theorem zdt {al:Nat} {st:Int} {e:Edg} {w:World}(hsm:Sm al) :
  Calls Tryz.prog 260 #[.int .i64 al,.int .i64 st,.agg #[.int .i64 e.fr,.int .i64 e.le,.int .i64 e.ta]] w fun r w'=>r=.returned (.bool (edgB al st e))∧Ext w w':=by
 have Hv:=za (show edgB al st e=((decide (0≤e.fr)&&decide (e.fr<st))&&((decide (0≤e.ta)&&decide (e.ta<st))&&(decide (e.le<6)&&hasB al e.le))) from rfl)
 by_cases h0:e.fr<0
 ·go_enter Tryz.func260,Tryz.ntmps260
  go_wp2
  go_ret
  exact⟨zj (by rw [Hv.out];simp;omega),(Ext.refl _).alloc _⟩
 ·by_cases h1:st≤e.fr
  ·go_enter Tryz.func260,Tryz.ntmps260
   go_wp2
   go_ret
   exact⟨zj (by rw [Hv.out];simp;omega),(Ext.refl _).alloc _⟩
  ·by_cases h2:e.ta<0
   ·go_enter Tryz.func260,Tryz.ntmps260
    go_wp2
    go_ret
    exact⟨zj (by rw [Hv.out];simp;omega),(Ext.refl _).alloc _⟩
   ·by_cases h3:st≤e.ta
    ·go_enter Tryz.func260,Tryz.ntmps260
     go_wp2
     go_ret
     exact⟨zj (by rw [Hv.out];simp;omega),(Ext.refl _).alloc _⟩
    ·by_cases h4:0≤e.le
     ·by_cases h5:e.le<6
      ·obtain⟨le,hle⟩:∃ le:Nat,Hid (e.le=le):=⟨e.le.toNat,by unfold Hid;omega⟩
       have hl6:(le:Int)<6:=by have:=hle.out;omega
       clear h4 h5
       rw [hle.out]
       go_enter Tryz.func260,Tryz.ntmps260
       go_wp2_with (go_at_call 140;refine (zab al le hsm _ (by omega)).mono ?_;rintro r w' ⟨rfl,rfl⟩)
       go_ret
       exact⟨zj (by rw [Hv.out,hle.out,decide_eq_true (show 0≤e.fr by omega),decide_eq_true (show e.fr<st by omega),decide_eq_true (show 0≤e.ta by omega),decide_eq_true (show e.ta<st by omega),decide_eq_true hl6];simp [hasB]),(Ext.refl _).alloc _⟩
      ·go_enter Tryz.func260,Tryz.ntmps260
       go_wp2_with fail
       go_ret
       exact⟨zj (by rw [Hv.out];simp;omega),(Ext.refl _).alloc _⟩
     ·go_enter Tryz.func260,Tryz.ntmps260
      go_wp2_with fail
      go_ret
      exact⟨zj (by rw [Hv.out];simp [hasB];omega),(Ext.refl _).alloc _⟩
theorem zfg {a b:Edg} {w:World} :
  Calls Tryz.prog 257 #[.agg #[.int .i64 a.fr,.int .i64 a.le,.int .i64 a.ta],.agg #[.int .i64 b.fr,.int .i64 b.le,.int .i64 b.ta]] w fun e w'=>e=.returned (.bool (ltE a b))∧Ext w w':=by
 have Hv:=za (show ltE a b=if a.fr=b.fr then if a.le=b.le then decide (a.ta<b.ta) else decide (a.le<b.le) else decide (a.fr<b.fr) from rfl)
 have hx:Ext w ((w.alloc (.cells #[Value.int .i64 a.fr,.int .i64 a.le,.int .i64 a.ta] 152)).alloc (.cells #[Value.int .i64 b.fr,.int .i64 b.le,.int .i64 b.ta] 152)):=((Ext.refl _).alloc _).alloc _
 have Hx:=za hx
 clear hx
 by_cases h0:a.fr=b.fr
 ·have n0:(a.fr != b.fr)=false:=by simp [h0]
  have H0:=za h0
  clear h0
  by_cases h1:a.le=b.le
  ·have n1:(a.le != b.le)=false:=by simp [h1]
   have H1:=za h1
   clear h1
   go_enter Tryz.func257,Tryz.ntmps257
   go_wp2
   go_ret
   exact⟨zj (by rw [Hv.out,if_pos H0.out,if_pos H1.out]),Hx.out⟩
  ·have n1:(a.le != b.le)=true:=by simp [h1]
   go_enter Tryz.func257,Tryz.ntmps257
   go_wp2
   go_ret
   exact⟨zj (by rw [Hv.out,if_pos H0.out,if_neg h1]),Hx.out⟩
 ·have n0:(a.fr != b.fr)=true:=by simp [h0]
  go_enter Tryz.func257,Tryz.ntmps257
  go_wp2
  go_ret
  exact⟨zj (by rw [Hv.out,if_neg h0]),Hx.out⟩
theorem zax {lo hi:Nat} {A:Option Addr} {n c:Nat} {s:Sys} {w:World}(h:zM w lo hi A n s) :
  Calls Tryz.prog 199 #[.agg #[.int .i64 s.al,.int .i64 s.st,.slice A n c]] w fun e w'=>e=.returned (.bool (zn s))∧Ext w w':=by
 have Hv:=za (show zn s=(decide (0≤s.al∧s.al≤63)&&(decide (1≤s.st∧s.st≤16)&&(List.range n).all (zaS s.al.toNat s.st s.edges))) by unfold zn;rw [← h.1])
 have hn:=h.2.len
 by_cases hal:0≤s.al∧s.al≤63
 ·by_cases hst:1≤s.st∧s.st≤16
  ·obtain⟨al,hal'⟩:∃ al:Nat,Hid (s.al=al):=⟨s.al.toNat,by unfold Hid;omega⟩
   have hsm:Sm al:=by have:=hal'.out;unfold Sm;omega
   have hd:=za (show decide (0≤(al:Int)∧(al:Int)≤63)=true by have:=hal'.out;simp;omega)
   rw [hal'.out]
   rw [hal'.out,Int.toNat_natCast] at Hv
   clear hal
   have hd1:decide (s.st<1)=false:=by simp;omega
   have hd2:decide (16<s.st)=false:=by simp;omega
   obtain⟨st,hst',hs1,hs2⟩:∃ st:Int,Hid (s.st=st)∧1≤st∧st≤16:=⟨s.st,za rfl,hst.1,hst.2⟩
   rw [hst'.out] at hd1 hd2 Hv ⊢
   clear hst
   have hR:=fun W (hW:Ext w W)=>h.2.ext hW
   have HR:=za hR
   clear hR
   go_enter Tryz.func199,Tryz.ntmps199
   go_wp2_with (go_at_call 139;refine (zT _ _).mono ?_;rw [hd.out];rintro e w' ⟨rfl,rfl⟩)
   go_loopw [3] (fun i wr=>∃ k:Nat,k≤n∧i=.int .i64 k∧Hid (((List.range n).take k).all (zaS al st s.edges)=true)∧Ext (w.alloc (.cells #[Value.int .i64 al,.int .i64 st,Value.slice A n c] 38)) wr)
    (fun i _=>n - (intOf i).toNat)
   case atStart=>exact⟨0,Nat.zero_le _,rfl,rfl,Ext.refl _⟩
   case round =>
    obtain⟨k,hk,rfl,hall,ziL⟩:=hrel
    have hbx:=zct ziL
    by_cases hlt:k<n
    ·obtain⟨b,o,e,rfl,hlo,hhi,he,c0,c1,c2⟩:=(HR.out wr (((Ext.refl _).alloc _).trans ziL)).edge hlt
     go_wp2_with fail
     clear hbx
     have e0:∀ X,Ext wr X→∀ j,X.cell? ⟨w.heap.size,j,none⟩=#[Value.int .i64 al,.int .i64 st,Value.slice (some ⟨b,o,none⟩) n c][j]?:=fun X hX=>zct (ziL.trans hX)
     have q0:∀ X,Ext wr X→X.cell? ⟨b,o+k*3,none⟩=some (.int .i64 e.fr):=fun X hX=>hX.cell_some c0
     have q1:∀ X,Ext wr X→X.cell? ⟨b,o+k*3+1,none⟩=some (.int .i64 e.le):=fun X hX=>hX.cell_some c1
     have q2:∀ X,Ext wr X→X.cell? ⟨b,o+k*3+2,none⟩=some (.int .i64 e.ta):=fun X hX=>hX.cell_some c2
     have hr:=Ext.refl wr
     clear c0 c1 c2
     have ziM:∀ X,Ext wr X→Ext w X:=fun X hX=>(((Ext.refl _).alloc _).trans ziL).trans hX
     have Hfin:=za ziM
     clear ziM
     have hk0':(0:Int)≤(k:Int):=by omega
     have hk1':(k:Int)<(n:Int):=by omega
     have hge:(List.range n)[k]?=some k:=by rw [List.getElem?_range hlt]
     have Hge:=za hge
     clear hge
     cases hA':edgB al st e
     ·have hA:=za hA'
      clear hA'
      refine zaa (fun X=>Ext wr X) [0,1,2,3,4,5,6,7,8,9,10,11,12,13,14,15,16,17,18,19,20,21,22,23,24,25,26,27,28,29] (by kernel_rfl) rfl (by kernel_rfl) (by kernel_rfl) (fun _ _ _ _ _ h=>h) ((Ext.refl _).drew) (fun hS=>?_)
      refine sQ ?_
      refine zU (fun K hK=>?_)
      go_simp
      refine (zdt (e:=e) hsm).mono ?_
      rw [hA.out];rintro r w2 ⟨rfl,hx2⟩
      refine hK.out _ _ (Ext.trans (by assumption) hx2) (fun hS=>?_)
      refine pT ?_
      refine sQ ?_
      refine zcy ?_
      go_wp2_with fail
      go_ret
      exact⟨zj (by rw [Hv.out,zat Hge.out (by rw [zaS,he.out];dsimp only;rw [hA.out];simp)];simp),Hfin.out _ (by assumption)⟩
     ·have hA:=za hA'
      clear hA'
      by_cases hk0:k=0
      ·subst hk0
       simp only [Nat.zero_mul,Nat.add_zero] at q0 q1 q2
       refine zaa (fun X=>Ext wr X) [0,1,2,3,4,5,6,7,8,9,10,11,12,13,14,15,16,17,18,19,20,21,22,23,24,25,26,27,28,29] (by kernel_rfl) rfl (by kernel_rfl) (by kernel_rfl) (fun _ _ _ _ _ h=>h) ((Ext.refl _).drew) (fun hS=>?_)
       refine sQ ?_
       refine zU (fun K hK=>?_)
       go_simp
       refine (zdt (e:=e) hsm).mono ?_
       rw [hA.out];rintro r w2 ⟨rfl,hx2⟩
       refine hK.out _ _ (Ext.trans (by assumption) hx2) (fun hS=>?_)
       refine pT ?_
       refine sQ ?_
       refine zcy ?_
       go_wp2_with fail
       go_roundw
       case rel=>exact⟨0+1,by omega,by go_num,zbZ Hge.out hall.out (by rw [zaS,he.out];dsimp only;rw [hA.out];simp),ziL.trans (by assumption)⟩
       case measure=>simp [intOf];omega
      ·obtain⟨j,rfl⟩:∃ j,k=j+1:=⟨k - 1,by omega⟩
       have hp:s.edges[j]?=some (s.edges[j]'(by have:=h.1;omega)):=List.getElem?_eq_getElem _
       generalize s.edges[j]'(by have:=h.1;omega)=p at hp
       have Hp:=za hp
       clear hp
       have hpc:=(HR.out wr (((Ext.refl _).alloc _).trans ziL)).edge2 Hp.out
       have p0:∀ X,Ext wr X→X.cell? ⟨b,o+j*3,none⟩=some (.int .i64 p.fr):=fun X hX=>hX.cell_some hpc.1
       have p1:∀ X,Ext wr X→X.cell? ⟨b,o+j*3+1,none⟩=some (.int .i64 p.le):=fun X hX=>hX.cell_some hpc.2.1
       have p2:∀ X,Ext wr X→X.cell? ⟨b,o+j*3+2,none⟩=some (.int .i64 p.ta):=fun X hX=>hX.cell_some hpc.2.2
       clear hpc
       have hk1:decide ((0:Int)<(j:Int)+1)=true:=decide_eq_true (by omega)
       have hw1:IntKind.i64.wrap ((j:Int)+1 - 1)=(j:Int):=by rw [IntKind.wrap_i64];omega
       have hw2:IntKind.i64.wrap (j:Int)=(j:Int):=by rw [IntKind.wrap_i64];omega
       have hj0:(0:Int)≤(j:Int):=by omega
       have hj1:(j:Int)<(n:Int):=by omega
       have hj2:(0:Int)≤(j:Int)+1:=by omega
       have hj3:(j:Int)+1<(n:Int):=by omega
       have hj4:((j:Int)+1).toNat=j+1:=by omega
       cases hnl':ltE p e
       ·have hnl:=za hnl'
        clear hnl'
        refine zaa (fun X=>Ext wr X) [0,1,2,3,4,5,6,7,8,9,10,11,12,13,14,15,16,17,18,19,20,21,22,23,24,25,26,27,28,29] (by kernel_rfl) rfl (by kernel_rfl) (by kernel_rfl) (fun _ _ _ _ _ h=>h) ((Ext.refl _).drew) (fun hS=>?_)
        refine sQ ?_
        refine zU (fun K hK=>?_)
        go_simp
        refine (zdt (e:=e) hsm).mono ?_
        rw [hA.out];rintro r w2 ⟨rfl,hx2⟩
        refine hK.out _ _ (Ext.trans (by assumption) hx2) (fun hS=>?_)
        refine pT ?_
        refine sQ ?_
        refine zU (fun K hK=>?_)
        go_simp
        refine (zfg (a:=p) (b:=e)).mono ?_
        rw [hnl.out];rintro r w3 ⟨rfl,hx3⟩
        refine hK.out _ _ (Ext.trans (by assumption) hx3) (fun hS=>?_)
        refine pT ?_
        refine sQ ?_
        refine zcy ?_
        go_wp2_with fail
        go_ret
        exact⟨zj (by rw [Hv.out,zat Hge.out (by rw [zaS,he.out];dsimp only;rw [Nat.add_sub_cancel,Hp.out];simp [hnl.out])];simp),Hfin.out _ (by assumption)⟩
       ·have hnl:=za hnl'
        clear hnl'
        refine zaa (fun X=>Ext wr X) [0,1,2,3,4,5,6,7,8,9,10,11,12,13,14,15,16,17,18,19,20,21,22,23,24,25,26,27,28,29] (by kernel_rfl) rfl (by kernel_rfl) (by kernel_rfl) (fun _ _ _ _ _ h=>h) ((Ext.refl _).drew) (fun hS=>?_)
        refine sQ ?_
        refine zU (fun K hK=>?_)
        go_simp
        refine (zdt (e:=e) hsm).mono ?_
        rw [hA.out];rintro r w2 ⟨rfl,hx2⟩
        refine hK.out _ _ (Ext.trans (by assumption) hx2) (fun hS=>?_)
        refine pT ?_
        refine sQ ?_
        refine zU (fun K hK=>?_)
        go_simp
        refine (zfg (a:=p) (b:=e)).mono ?_
        rw [hnl.out];rintro r w3 ⟨rfl,hx3⟩
        refine hK.out _ _ (Ext.trans (by assumption) hx3) (fun hS=>?_)
        refine pT ?_
        refine sQ ?_
        refine zcy ?_
        go_wp2_with fail
        go_roundw
        case rel=>exact⟨j+1+1,by omega,by go_num,zbZ Hge.out hall.out (by rw [zaS,he.out];dsimp only;rw [Nat.add_sub_cancel,Hp.out,hA.out];simp [hnl.out]),ziL.trans (by assumption)⟩
        case measure=>simp [intOf];omega
    ·obtain rfl:k=n:=by omega
     go_wp2
     go_ret
     exact⟨zj (by rw [Hv.out,zdD (by simp) hall.out,hd.out];simp;omega),((Ext.refl _).alloc _).trans ziL⟩
  ·go_enter Tryz.func199,Tryz.ntmps199
   have hd:=za (show decide (0≤s.al∧s.al≤63)=true by simp;omega)
   go_wp2_with (go_at_call 139;refine (zT _ _).mono ?_;rw [hd.out];rintro e w' ⟨rfl,rfl⟩)
   all_goals go_ret
   all_goals exact⟨zj (by rw [Hv.out];simp [hst]),(Ext.refl _).alloc _⟩
 ·go_enter Tryz.func199,Tryz.ntmps199
  have hd:=za (show decide (0≤s.al∧s.al≤63)=false by simp;omega)
  go_wp2_with (go_at_call 139;refine (zT _ _).mono ?_;rw [hd.out];rintro e w' ⟨rfl,rfl⟩)
  go_ret
  exact⟨zj (by rw [Hv.out];simp;omega),(Ext.refl _).alloc _⟩
theorem zdQ {s:Sys}(h:zn s=true):∃ p:Nat,s.st=p∧1≤p∧p≤16∧Few p s.edges:=by
 simp only [zn,Bool.and_eq_true,decide_eq_true_eq,List.all_eq_true,List.mem_range] at h
 obtain⟨_,⟨h1,h2⟩,h3⟩:=h
 refine⟨s.st.toNat,by omega,by omega,by omega,fun e he=>?_⟩
 obtain⟨k,hk⟩:=List.getElem?_of_mem he
 have:=h3 k (List.getElem?_eq_some_iff.1 hk).1
 rw [zaS,hk] at this
 simp only [Bool.and_eq_true,edgB,decide_eq_true_eq,hasB] at this
 omega
def marks (k n:Nat):List Nat:=(List.range n).map (k+·)
theorem zfH (k n:Nat):(marks k n).length=n:=by simp [marks]
theorem marks_get {k n i:Nat}(h:i<n):(marks k n)[i]?=some (k+i):=by simp [marks,h]
theorem zaq {w:World} {base:Nat} {e:TypeId} {size n c:Nat} {A:Option Addr} {xs:List Value}(h:w.ownsRow base e size (.slice A n c) n xs)(hn:0<n):∃ g,A=some ⟨g,0,none⟩∧base≤g∧g<w.heap.size:=by
 rcases h.2 with ⟨_,h0⟩|⟨g,cap,cur,hv,hg,hh,_⟩
 ·omega
 ·injection hv with h1 h2 h3
  exact⟨g,h1,hg,(Array.getElem?_eq_some_iff.1 hh).1⟩
def blk (A:Option Addr) (b:Nat):Prop:=∃ a,A=some a∧a.block=b
theorem markIntS_any {base:Nat} {A:Option Addr} {n c:Nat} {xs:List Value} {k:Nat} {w:World}(h:w.ownsRow base 3 1 (.slice A n c) n xs)(hk:k+n≤4611686018427387904) :
  Calls Tryz.prog 124 #[.slice A n c,.int .i64 k] w fun e w'=>e=.returned (.int .i64 (k+n:Nat))∧w'.ownsRow base 3 1 (.slice A n c) n (zS (marks k n))∧Frm (blk A) w w':=by
 have hlen:=za h.1
 go_enter Tryz.func124,Tryz.ntmps124
 go_wp2
 go_loopw [1,5] (fun v i wr=>∃ j:Nat,j≤n∧i=.int .i64 j∧v=.int .i64 (k+j:Nat)∧∃ rest:List Value,Hid (rest.length=n - j)∧wr.ownsRow base 3 1 (.slice A n c) n (zS (marks k j)++rest)∧Frm (blk A) w wr) (fun _ i _=>n - (intOf i).toNat)
 case atStart=>exact⟨0,Nat.zero_le _,rfl,rfl,xs,by unfold Hid;rw [hlen.out];omega,by simpa [zS,marks] using h,Frm.refl _ _⟩
 case round =>
  obtain⟨j,hj,rfl,rfl,rest,hrest,ziJ,hf⟩:=hrel
  by_cases hlt:j<n
  ·obtain⟨g,rfl,hg,_⟩:=zaq ziJ (by omega)
   obtain⟨o0,g0⟩:=zau ziJ j (by omega)
   have f0:=ziJ.frozenAt j
   have hst:=ziJ.stored j (.int .i64 (k+j:Nat))
   have hset:(zS (marks k j)++rest).set j (.int .i64 ((k+j:Nat):Int))=zS (marks k (j+1))++rest.drop 1:=by
    have hl:(zS (marks k j)).length=j:=by rw [zgA,zfH]
    match rest,hrest.out with
    |[],hr=>simp at hr;omega
    |x :: r,_ =>
     rw [List.set_append_right _ _ (by omega),hl,Nat.sub_self,marks,marks,List.range_succ,List.map_append,nats_append]
     simp [zS]
   rw [hset] at hst
   have h1:(k:Int)+(j:Int)≤4611686018427387904:=by omega
   clear hset
   go_wp2
   go_roundw
   case rel=>exact⟨j+1,by omega,by go_num,by go_num,rest.drop 1,by have:=hrest.out;unfold Hid;rw [List.length_drop];omega,hst.1,hf.cell (p:=⟨g,j,none⟩) ⟨⟨g,0,none⟩,rfl,rfl⟩ _⟩
   case measure=>simp [intOf];omega
  ·obtain rfl:n=j:=by omega
   obtain rfl:rest=[]:=List.eq_nil_of_length_eq_zero (by have:=hrest.out;omega)
   go_wp2
   go_ret
   exact⟨rfl,by simpa using ziJ,hf⟩
theorem heldIntS_any {lo hi:Nat} {A:Option Addr} {n c:Nat} {k:Nat} {w:World}(h:Reads w lo hi 1 A n (zS (marks k n)))(hk:k+n≤4611686018427387904) :
  Calls Tryz.prog 206 #[.slice A n c,.int .i64 k] w fun e w'=>e=.returned (.int .i64 (k+n:Nat))∧w=w':=by
 have hn:=h.len
 go_enter Tryz.func206,Tryz.ntmps206
 go_wp2
 go_loop [1,5] (fun v i=>∃ j:Nat,j≤n∧i=.int .i64 j∧v=.int .i64 (k+j:Nat)) (fun _ i=>n - (intOf i).toNat)
 case atStart=>exact⟨0,Nat.zero_le _,rfl,rfl⟩
 case round =>
  obtain⟨j,hj,rfl,rfl⟩:=hrel
  by_cases hlt:j<n
  ·obtain⟨ad,u,rfl,_,_,hu,hc⟩:=h.one hlt
   have hu':u=.int .i64 (k+j:Nat):=by
    have:=hu.out
    simp only [zS,List.getElem?_map,marks_get hlt,Option.map_some,Option.some.injEq] at this
    exact this.symm
   subst hu'
   have hne:((k:Int)+(j:Int) != (k:Int)+(j:Int))=false:=by simp
   go_wp2
   go_round
   case rel=>exact⟨j+1,by omega,by go_num,by go_num⟩
   case measure=>simp [intOf];omega
  ·obtain rfl:n=j:=by omega
   go_wp2
   go_ret
   exact⟨rfl,rfl⟩
def lst (x:Nat):Nat:=(letters x 32).headD 0
def clsOf (R:List Nat):Nat→List Nat × Nat
 |0=>([],0)
 |k+1=>if lst (R.getD k 0)=k then ((clsOf R k).1++[(clsOf R k).2],(clsOf R k).2+1) else ((clsOf R k).1++[(clsOf R k).1.getD (lst (R.getD k 0)) 0],(clsOf R k).2)
def cl (R:List Nat) (i:Nat):Nat:=(clsOf R (i+1)).1.getD i 0
theorem ltE_trans {a b c:Edg}(h:ltE a b=true)(h':ltE b c=true):ltE a c=true:=by
 unfold ltE at *
 (repeat' split at h)<;>(repeat' split at h')<;>(repeat' split)<;>simp only [decide_eq_true_eq] at*<;> omega
theorem ltE_iff {a b:Edg}:ltE a b=true↔a.fr<b.fr∨a.fr=b.fr∧(a.le<b.le∨a.le=b.le∧a.ta<b.ta):=by
 unfold ltE
 (repeat' split)<;>simp only [decide_eq_true_eq]<;>omega
def Rising (es:List Edg):Prop:=∀ (a b:Nat) (x y:Edg),es[a]?=some x→es[b]?=some y→a<b→ltE x y=true
theorem rising_of {es:List Edg}(h:∀ k x y,es[k]?=some x→es[k+1]?=some y→ltE x y=true):Rising es:=by
 intro a b x y hx hy hab
 induction b generalizing y with
 |zero=>omega
 |succ b ih =>
  have hb:=(List.getElem?_eq_some_iff.1 hy).1
  obtain⟨z,hz⟩:∃ z,es[b]?=some z:=⟨_,List.getElem?_eq_getElem (by omega)⟩
  have h1:=h b z y hz hy
  rcases Nat.lt_or_ge a b with h2|h2
  ·exact ltE_trans (ih z hz h2) h1
  ·obtain rfl:a=b:=by omega
   rw [hx] at hz
   obtain rfl:=Option.some.inj hz
   exact h1
theorem valid_iff {s:Sys}:zn s=true↔(0≤s.al∧s.al≤63)∧(1≤s.st∧s.st≤16)∧(∀ e∈s.edges,edgB s.al.toNat s.st e=true)∧Rising s.edges:=by
 simp only [zn,Bool.and_eq_true,decide_eq_true_eq,List.all_eq_true,List.mem_range]
 constructor
 ·rintro ⟨h1,h2,h3⟩
  refine⟨h1,h2,fun e he=>?_,rising_of fun k x y hx hy=>?_⟩
  ·obtain⟨k,hk⟩:=List.getElem?_of_mem he
   have:=h3 k (List.getElem?_eq_some_iff.1 hk).1
   rw [zaS,hk] at this
   simp only [Bool.and_eq_true] at this
   exact this.1
  ·have:=h3 (k+1) (List.getElem?_eq_some_iff.1 hy).1
   unfold zaS at this
   rw [hy] at this
   simp only [Nat.add_sub_cancel,hx,Bool.and_eq_true,Bool.or_eq_true,decide_eq_true_eq] at this
   rcases this.2 with h|h
   ·omega
   ·exact h
 ·rintro ⟨h1,h2,h3,h4⟩
  refine⟨h1,h2,fun k hk=>?_⟩
  have hx:s.edges[k]?=some s.edges[k]:=List.getElem?_eq_getElem hk
  unfold zaS
  rw [hx]
  simp only [Bool.and_eq_true,Bool.or_eq_true,decide_eq_true_eq]
  refine⟨h3 _ (List.getElem_mem hk),?_⟩
  cases k with
  |zero=>exact Or.inl rfl
  |succ k =>
   have hy:s.edges[k]?=some s.edges[k]:=List.getElem?_eq_getElem (by omega)
   simp only [Nat.add_sub_cancel,hy]
   exact Or.inr (h4 k (k+1) _ _ hy hx (by omega))
def ALAt (w:World) (lo hi:Nat) (A:Option Addr) (n:Nat) (us:List Aut):Prop:=
 n=us.length∧∃ cells,Reads w lo hi 3 A n cells∧∀ (k:Nat) (a:Aut),us[k]?=some a→∃ (B:Option Addr) (m c:Nat) (B':Option Addr) (m' c':Nat),cells[k*3]?=some (.int .i64 a.al)∧cells[k*3+1]?=some (.slice B m c)∧cells[k*3+2]?=some (.slice B' m' c')∧zC w lo hi B m B' m' a
section
variable {w w':World} {lo hi n k:Nat} {A:Option Addr} {us:List Aut}
theorem ALAt.ext (h:ALAt w lo hi A n us)(hb:Ext w w'):ALAt w' lo hi A n us:=by
 obtain⟨e,cells,hr,hx⟩:=h
 refine⟨e,cells,hr.ext hb,fun k s hs=>?_⟩
 obtain⟨B,m,c,B',m',c',h0,h1,h2,h3⟩:=hx k s hs
 exact⟨B,m,c,B',m',c',h0,h1,h2,h3.ext hb⟩
theorem ALAt.len (h:ALAt w lo hi A n us):n≤9223372036854775807:=by
 obtain⟨_,cells,hr,_⟩:=h
 exact hr.len
theorem ALAt.aut (h:ALAt w lo hi A n us)(hk:k<n):∃ b o a B m c B' m' c',A=some ⟨b,o,none⟩∧Hid (us[k]?=some a)∧w.cell? ⟨b,o+k*3,none⟩=some (.int .i64 a.al)∧w.cell? ⟨b,o+k*3+1,none⟩=some (.slice B m c)∧w.cell? ⟨b,o+k*3+2,none⟩=some (.slice B' m' c')∧zC w lo hi B m B' m' a:=by
 obtain⟨e,cells,hr,hx⟩:=h
 have h0:us[0]?=some (us[0]'(by omega)):=List.getElem?_eq_getElem _
 obtain⟨_,_,_,_,_,_,z0,_⟩:=hx 0 _ h0
 rw [Nat.zero_mul] at z0
 obtain⟨b,o,rfl,hl,hb,hc⟩:=zhG hr (by omega) z0
 have hs:us[k]?=some (us[k]'(by omega)):=List.getElem?_eq_getElem _
 obtain⟨B,m,c,B',m',c',h0,h1,h2,h3⟩:=hx k _ hs
 exact⟨b,o,_,B,m,c,B',m',c',rfl,hs,hc _ _ h0,by rw [Nat.add_assoc];exact hc _ _ h1,by rw [Nat.add_assoc];exact hc _ _ h2,h3⟩
end
structure zeG (w:World) (PA:Option Addr) (pn:Nat) (AA:Option Addr) (an:Nat) (ss:List Sys) (us:List Aut):Prop where
 sys:∃ lo hi,zha w lo hi PA pn ss
 aut:∃ lo hi,ALAt w lo hi AA an us
theorem zeG.ext {w w':World} {PA AA:Option Addr} {pn an:Nat} {ss:List Sys} {us:List Aut}(h:zeG w PA pn AA an ss us)(hx:Ext w w'):zeG w' PA pn AA an ss us:=by
 obtain⟨⟨lo,hi,h1⟩,lo',hi',h2⟩:=h
 exact⟨⟨lo,hi,h1.ext hx⟩,lo',hi',h2.ext hx⟩
def zaO (ss:List Sys) (us:List Aut):List Mem:=ss.map zdk++us.map zbf
def szs (ss:List Sys) (us:List Aut):List Nat:=ss.map (fun s=>s.st.toNat)++us.map fun a=>a.next.length
theorem zeY (ss:List Sys) (us:List Aut):(zaO ss us).map Prod.fst=szs ss us:=by
 simp [zaO,szs,zdk,zbf,Function.comp_def]
structure zdl (ss:List Sys) (us:List Aut):Prop where
 sys:∀ s∈ss,zn s=true
 aut:∀ a∈us,zk a=true
 few:ss.length≤3
 few':us.length≤2
theorem zbQ {s:Sys}(h:zn s=true):Sml s:=by
 obtain⟨h1,h2,h3,h4⟩:=valid_iff.1 h
 obtain⟨p,hp,_,_,hf⟩:=zdQ h
 refine⟨h2.1,h2.2,?_,h1.1,h1.2⟩
 rw [hp]
 exact hf
theorem zdl.ok {ss:List Sys} {us:List Aut}(h:zdl ss us):∀ m∈zaO ss us,zdB m:=by
 intro m hm
 rcases List.mem_append.1 hm with h1|h1
 ·obtain⟨s,hs,rfl⟩:=List.mem_map.1 h1
  exact zdJ (zbQ (h.sys s hs))
 ·obtain⟨a,ha,rfl⟩:=List.mem_map.1 h1
  exact zbg (h.aut a ha)
theorem prodS_le {l:List Nat} {b:Nat}(h:∀ x∈l,x≤b):zag l≤b ^ l.length:=by
 induction l with
 |nil=>simp [zag]
 |cons x r ih =>
  rw [zag,List.length_cons,Nat.pow_succ,Nat.mul_comm]
  exact Nat.mul_le_mul (ih fun y hy=>h y (by simp [hy])) (h x (by simp))
theorem zdl.le16 {ss:List Sys} {us:List Aut}(h:zdl ss us):∀ x∈szs ss us,1≤x∧x≤16:=by
 intro x hx
 rcases List.mem_append.1 hx with h1|h1
 ·obtain⟨s,hs,rfl⟩:=List.mem_map.1 h1
  have hh:=zbQ (h.sys s hs)
  have:=hh.1;have:=hh.2.1
  omega
 ·obtain⟨a,ha,rfl⟩:=List.mem_map.1 h1
  have:=(zl (h.aut a ha)).2.1
  omega
theorem zdl.len {ss:List Sys} {us:List Aut}(h:zdl ss us):(szs ss us).length≤5:=by
 have:=h.few;have:=h.few'
 simp [szs];omega
theorem zdl.total {ss:List Sys} {us:List Aut}(h:zdl ss us) (l:List Nat)(hl:l.Sublist (szs ss us)):1≤zag l∧zag l≤1048576:=by
 refine⟨prodS_pos fun x hx=>(h.le16 x (hl.subset hx)).1,?_⟩
 have h1:=prodS_le (l:=l) (b:=16) fun x hx=>(h.le16 x (hl.subset hx)).2
 have h2:=hl.length_le
 have h3:=h.len
 calc zag l≤16 ^ l.length:=h1
  _≤16 ^ 5:=Nat.pow_le_pow_right (by omega) (by omega)
  _=1048576:=by decide
theorem place_succ (a k:Nat):place a (k+1)=place a k+if a.testBit k then 1 else 0:=by
 unfold place
 rw [zaW,List.length_append]
 cases a.testBit k<;>simp
theorem spec_l1Place (a l:Nat)(ha:Sm a)(hl:l≤6) (w:World) :
  Calls Tryz.prog 270 #[.int .i64 a,.int .i64 l] w fun e w'=>e=.returned (.int .i64 (place a l:Nat))∧w=w':=by
 go_enter Tryz.func270,Tryz.ntmps270
 go_wp2
 go_loop [5,6] (fun v i=>∃ k y:Nat,k≤l∧i=.int .i64 k∧v=.int .i64 y∧y≤k∧Hid (y=place a k)) (fun _ i=>l - (intOf i).toNat)
 case atStart=>exact⟨0,0,Nat.zero_le _,rfl,rfl,Nat.le_refl _,rfl⟩
 case round =>
  obtain⟨k,y,hk,rfl,rfl,hy,hyo⟩:=hrel
  by_cases hlt:k<l
  ·cases hb:a.testBit k
   all_goals
    have Hb:=za hb
    have Hs:=za (place_succ a k)
    clear hb
    go_wp2_with (go_at_call 140;refine (zab a k ha _ (by omega)).mono ?_;rw [Hb.out];rintro e w' ⟨rfl,rfl⟩)
    go_round
    case rel=>first|exact⟨k+1,y,by omega,by go_num,rfl,by omega,by unfold Hid;rw [Hs.out,Hb.out,← hyo.out];rfl⟩|exact⟨k+1,y+1,by omega,by go_num,by go_num,by omega,by unfold Hid;rw [Hs.out,Hb.out,← hyo.out];rfl⟩
    case measure=>simp [intOf];omega
  ·obtain rfl:l=k:=by omega
   go_wp2
   go_ret
   exact⟨zG (by rw [hyo.out]),rfl⟩
theorem zdh {lo hi:Nat} {B:Option Addr} {m d:Nat} {B':Option Addr} {m' d':Nat} {a:Aut} {q l:Nat} {w:World}(h:zC w lo hi B m B' m' a)(hv:zk a=true)(hq:q<a.next.length)(hl:l<6) :
  Calls Tryz.prog 222 #[.agg #[.int .i64 a.al,.slice B m d,.slice B' m' d'],.int .i64 q,.int .i64 l] w fun e w'=>e=.returned (.int .i64 (aGo a q l:Nat))∧Ext w w':=by
 obtain⟨⟨al0,al1⟩,_,_,hrows⟩:=zl hv
 obtain⟨al,hal⟩:∃ al:Nat,Hid (a.al=al):=⟨a.al.toNat,by unfold Hid;omega⟩
 have hsm:Sm al:=by have:=hal.out;unfold Sm;omega
 have htn:a.al.toNat=al:=by have:=hal.out;omega
 have Hn:=za h.n1
 have HN:=za (fun W (hW:Ext w W)=>h.1.ext hW)
 have hqm:q<m:=by rw [h.n1];exact hq
 have hG:=za (show aGo a q l=if al.testBit l then ((a.next.getD q []).getD (place al l) 0).toNat else q by unfold aGo;rw [htn])
 have hrow:a.next[q]?=some a.next[q]:=List.getElem?_eq_getElem hq
 obtain⟨hr1,hr2⟩:=hrows q _ hrow
 rw [htn] at hr1
 have Hrow:=za hrow
 have Hr2:=za hr2
 have Hr1:=za hr1
 have hlm:=h.1.len
 clear hr1 hr2 hrow htn hrows h
 generalize a.next[q]=row at *
 cases hb:al.testBit l
 ·have Hb:=za hb
  clear hb
  rw [hal.out]
  clear al0 al1
  go_enter Tryz.func222,Tryz.ntmps222
  go_wp2_with (go_at_call 140;refine (zab al l hsm _ (by omega)).mono ?_;rw [Hb.out];rintro e w' ⟨rfl,rfl⟩)
  go_ret
  exact⟨zG (by rw [hG.out,Hb.out];rfl),(Ext.refl _).alloc _⟩
 ·have hp:=za (place_lt hl hb)
  have Hb:=za hb
  clear hb
  rw [hal.out]
  clear al0 al1
  have hpr:place al l<row.length:=by rw [Hr1.out];exact hp.out
  obtain⟨x,hx⟩:∃ x,Hid (row[place al l]?=some x):=⟨_,List.getElem?_eq_getElem hpr⟩
  obtain⟨x0,x1⟩:=Hr2.out x (List.mem_of_getElem? hx.out)
  obtain⟨y,rfl⟩:∃ y:Nat,x=y:=⟨x.toNat,by omega⟩
  have ziM:=za (show aGo a q l=y by rw [hG.out,Hb.out,if_pos rfl];simp only [List.getD_eq_getElem?_getD,Hrow.out,Option.getD_some,hx.out];rfl)
  go_enter Tryz.func222,Tryz.ntmps222
  go_wp2_with (go_at_call 140;refine (zab al l hsm _ (by omega)).mono ?_;rw [Hb.out];rintro e w' ⟨rfl,rfl⟩)
  have hw1:Ext w (w.alloc (.cells #[.int .i64 al,.slice B m d,.slice B' m' d'] 31)):=(Ext.refl w).alloc _
  have hb1:=Blk.new w 31 #[.int .i64 al,.slice B m d,.slice B' m' d']
  generalize w.alloc (.cells #[.int .i64 al,.slice B m d,.slice B' m' d'] 31)=w1 at *
  obtain⟨ad,Ak,ck,l',rfl,_,_,hl',hc,hrd⟩:=(HN.out w1 hw1).row hqm
  obtain rfl:row=l':=by have h1:=Hrow.out;have h2:=hl'.out;rw [h1] at h2;exact Option.some.inj h2
  have hpc:∀ W,Ext w1 W→∃ ad',Ak=some ad'∧W.cell? (ad'.add (place al l))=some (.int .i64 (y:Nat)):=fun W hW=>by
   obtain⟨ad',z,e,_,_,hz,hcz⟩:=(hrd.ext hW).int hpr
   have h1:=hx.out;have h2:=hz.out
   rw [h1] at h2
   obtain rfl:=Option.some.inj h2
   exact⟨ad',e,hcz⟩
  obtain⟨ad',rfl,_⟩:=hpc w1 (Ext.refl _)
  have c2:∀ W,Ext w1 W→W.cell? (ad'.add (place al l))=some (.int .i64 (y:Nat)):=fun W hW=>by
   obtain⟨ad2,e,h⟩:=hpc W hW
   injection e with e
   subst e
   exact h
  have c1:∀ W,Ext w1 W→W.cell? (ad.add q)=some (.slice (some ad') row.length ck):=fun W hW=>hW.cell_some hc
  have c0:=hb1.cells
  clear hpc hc hrd
  have hpi:(place al l:Int)<(row.length:Int):=by omega
  have hrr:=Ext.refl w1
  generalize hpp:place al l=pl at *
  have Hpp:=za hpp
  clear hpp
  go_wp2_with fail
  go_region_held3 (fun W=>Ext w1 W) (first|assumption|(refine Ext.drew ?_;assumption)|(refine Ext.trans ?_ (by assumption);assumption)|(refine Ext.trans ?_ (by assumption);refine Ext.drew ?_;assumption)) ((go_at_call 270;refine (spec_l1Place al l hsm (by omega) _).mono ?_;rw [Hpp.out];rintro e w' ⟨rfl,rfl⟩))
  go_wp2
  go_ret
  exact⟨zG (by rw [ziM.out]),hw1.trans (by assumption)⟩
abbrev Lay (α:Type):=World→Nat→Nat→Value→α→Prop
structure Lay.Ok {α:Type} (P:Lay α):Prop where
 frm:∀ {S:Nat→Prop} {W W':World} {lo hi:Nat} {r:Value} {x:α},P W lo hi r x→Frm S W W'→(∀ k,lo≤k→k<hi→¬ S k)→P W' lo hi r x
 more:∀ {W:World} {lo hi lo' hi':Nat} {r:Value} {x:α},P W lo hi r x→lo'≤lo→hi≤hi'→P W lo' hi' r x
def zbb:Lay Nat:=fun _ _ _ r n=>r=.int .i64 (n:Nat)
theorem zbb.ok:Lay.Ok zbb:=⟨fun h _ _=>h,fun h _ _=>h⟩
def Lst {α:Type} (P:Lay α) (W:World) (lo hi:Nat) (A:Option Addr) (xs:List α):Prop:=
 ∃ rows,Reads W lo hi 1 A xs.length rows∧∀ (i:Nat) (r:Value) (x:α),rows[i]?=some r→xs[i]?=some x→P W lo hi r x
def LstP {α:Type} (P:Lay α):Lay (List α):=fun W lo hi r xs=>∃ A c,r=.slice A xs.length c∧Lst P W lo hi A xs
section
variable {α:Type} {P:Lay α} {W W':World} {lo hi:Nat} {A:Option Addr} {xs:List α}
theorem Lst.frm (hP:Lay.Ok P) {S:Nat→Prop}(h:Lst P W lo hi A xs)(hx:Frm S W W')(hS:∀ k,lo≤k→k<hi→¬ S k):Lst P W' lo hi A xs:=by
 obtain⟨rows,h1,h2⟩:=h
 exact⟨rows,h1.frm hx hS,fun i r x hr hx'=>hP.frm (h2 i r x hr hx') hx hS⟩
theorem Lst.ext (hP:Lay.Ok P)(h:Lst P W lo hi A xs)(hx:Ext W W'):Lst P W' lo hi A xs:=h.frm hP hx (fun _ _ _ h=>h)
theorem Lst.more (hP:Lay.Ok P) {lo' hi':Nat}(h:Lst P W lo hi A xs)(h1:lo'≤lo)(h2:hi≤hi'):Lst P W lo' hi' A xs:=by
 obtain⟨rows,h3,h4⟩:=h
 exact⟨rows,h3.more h1 h2,fun i r x hr hx'=>hP.more (h4 i r x hr hx') h1 h2⟩
theorem LstP.ok (hP:Lay.Ok P):Lay.Ok (LstP P):=by
 refine⟨fun h hx hS=>?_,fun h h1 h2=>?_⟩
 ·obtain⟨A,c,e,h⟩:=h
  exact⟨A,c,e,h.frm hP hx hS⟩
 ·obtain⟨A,c,e,h⟩:=h
  exact⟨A,c,e,h.more hP h1 h2⟩
theorem Lst.len (h:Lst P W lo hi A xs):xs.length≤9223372036854775807:=by
 obtain⟨rows,h1,_⟩:=h
 exact h1.len
theorem Lst.get {k:Nat}(h:Lst P W lo hi A xs)(hk:k<xs.length):∃ b o r x,A=some ⟨b,o,none⟩∧lo≤b∧b<hi∧Hid (xs[k]?=some x)∧W.cell? ⟨b,o+k,none⟩=some r∧P W lo hi r x:=by
 obtain⟨rows,h1,h2⟩:=h
 have hl:=h1.length
 rw [Nat.mul_one] at hl
 obtain⟨ad,e,h3,h4,h5⟩:=h1.at_ hk
 have hr0:rows[0]?=some (rows[0]'(by omega)):=List.getElem?_eq_getElem _
 have hrk:rows[k]?=some (rows[k]'(by omega)):=List.getElem?_eq_getElem _
 have hs:=zeL (h5 0 _ hr0)
 have hc:=h5 k _ hrk
 rw [hs,zaE] at hc
 exact⟨ad.block,ad.off,_,_,by rw [e,← hs],h3,h4,List.getElem?_eq_getElem hk,hc,h2 k _ _ hrk (List.getElem?_eq_getElem hk)⟩
theorem Lst.get2 {k b o:Nat} {x:α}(h:Lst P W lo hi (some ⟨b,o,none⟩) xs)(hx:xs[k]?=some x):∃ r,W.cell? ⟨b,o+k,none⟩=some r∧P W lo hi r x:=by
 obtain⟨b',o',r,y,e,_,_,hy,hc,hp⟩:=h.get (List.getElem?_eq_some_iff.1 hx).1
 injection e with e
 injection e with e1 e2
 subst e1;subst e2
 rw [hx] at hy
 have:=Option.some.inj hy.out
 subst this
 exact⟨r,hc,hp⟩
end
theorem Lst.of_nats {W:World} {lo hi:Nat} {A:Option Addr} {xs:List Nat}(h:Reads W lo hi 1 A xs.length (zS xs)):Lst zbb W lo hi A xs:=⟨zS xs,h,fun i r x hr hx=>by
 simp only [zS,List.getElem?_map,hx,Option.map_some] at hr
 exact (Option.some.inj hr).symm⟩
theorem Lst.own_nats {W:World} {base c:Nat} {A:Option Addr} {xs:List Nat}(h:W.ownsRow base 3 1 (.slice A xs.length c) xs.length (zS xs)):Lst zbb W base W.heap.size A xs:=Lst.of_nats (Reads.of_own h)
theorem Lst.num {W:World} {lo hi k:Nat} {A:Option Addr} {xs:List Nat}(h:Lst zbb W lo hi A xs)(hk:k<xs.length):∃ b o x,A=some ⟨b,o,none⟩∧lo≤b∧b<hi∧Hid (xs[k]?=some x)∧W.cell? ⟨b,o+k,none⟩=some (.int .i64 (x:Nat)):=by
 obtain⟨b,o,r,x,e,h1,h2,h3,h4,h5⟩:=h.get hk
 exact⟨b,o,x,e,h1,h2,h3,by rw [h4,h5]⟩
theorem Lst.num2 {W:World} {lo hi k b o x:Nat} {xs:List Nat}(h:Lst zbb W lo hi (some ⟨b,o,none⟩) xs)(hx:xs[k]?=some x):W.cell? ⟨b,o+k,none⟩=some (.int .i64 (x:Nat)):=by
 obtain⟨r,h1,h2⟩:=h.get2 hx
 rw [h1,h2]
def Grl {α:Type} (P:Lay α) (W:World) (base:Nat) (e:TypeId) (v:Value) (xs:List α):Prop:=
 ∃ rows:List Value,W.ownsRow base e 1 v xs.length rows∧∀ (i:Nat) (r:Value) (x:α),rows[i]?=some r→xs[i]?=some x→∃ lo hi,base≤lo∧hi≤W.heap.size∧P W lo hi r x∧∀ b,v.ownBlock=some b→b<lo∨hi≤b
section
variable {α:Type} {P:Lay α} {W W':World} {base:Nat} {e:TypeId} {v:Value} {xs:List α}
theorem Grl.form (h:Grl P W base e v xs):∃ A c,v=.slice A xs.length c:=by
 obtain⟨rows,h1,_⟩:=h
 exact zi h1
theorem Grl.lst (hP:Lay.Ok P) {A:Option Addr} {n c:Nat}(h:Grl P W base e (.slice A n c) xs):Lst P W base W.heap.size A xs:=by
 obtain⟨rows,h1,h2⟩:=h
 have hn:n=xs.length:=by
  obtain⟨A',c',hh⟩:=zi h1
  injection hh
 subst hn
 refine⟨rows,Reads.of_own h1,fun i r x hr hx=>?_⟩
 obtain⟨lo,hi,h3,h4,h5,_⟩:=h2 i r x hr hx
 exact hP.more h5 h3 h4
theorem Grl.push (hP:Lay.Ok P) {W1:World} {rows:List Value} {v' r:Value} {x:α} {lo hi:Nat}(h2:∀ (i:Nat) (r:Value) (x:α),rows[i]?=some r→xs[i]?=some x→∃ lo hi,base≤lo∧hi≤W.heap.size∧P W lo hi r x∧∀ b,v.ownBlock=some b→b<lo∨hi≤b)(h1:W.ownsRow base e 1 v xs.length rows)
  (hx:Ext W W1) (hr:P W1 lo hi r x) (hlo:W.heap.size≤lo) (hb:base≤lo) (hhi:hi≤W1.heap.size) (ziJ:W'.ownsRow base e 1 v' (xs.length+1) (rows++[r])) (hg:W1.grownBy W' v.ownBlock) (hat:v'.ownBlock=v.ownBlock∨v'.ownBlock=some (W1.heap.size+1)):Grl P W' base e v' (xs++[x]):=by
 have hlen:rows.length=xs.length:=by have:=zcS h1;omega
 have hfr:Frm (fun k=>v.ownBlock=some k) W1 W':=Frm.of_grown hg
 refine⟨rows++[r],by rw [List.length_append,List.length_singleton];exact ziJ,fun i s y hs hy=>?_⟩
 rcases Nat.lt_trichotomy i rows.length with hi' | hi' | hi'
 ·rw [List.getElem?_append_left hi'] at hs
  rw [List.getElem?_append_left (by omega)] at hy
  obtain⟨lo',hi'',h3,h4,h5,h6⟩:=h2 i s y hs hy
  refine⟨lo',hi'',h3,Nat.le_trans h4 (Nat.le_trans hx.size hfr.size),hP.frm (hP.frm h5 hx (fun _ _ _ h=>h)) hfr (fun k hk1 hk2 hk=>by have:=h6 k hk;omega),fun b hb'=>?_⟩
  rcases hat with h7|h7
  ·rw [h7] at hb';exact h6 b hb'
  ·rw [h7] at hb'
   have:=Option.some.inj hb'
   have:=hx.size
   omega
 ·rw [List.getElem?_append_right (by omega),hi',Nat.sub_self] at hs
  rw [List.getElem?_append_right (by omega),hi',hlen,Nat.sub_self] at hy
  simp at hs hy
  subst hs;subst hy
  refine⟨lo,hi,hb,Nat.le_trans hhi hfr.size,hP.frm hr hfr (fun k hk1 hk2 hk=>by have:=(h1.lt k hk).2;omega),fun b hb'=>?_⟩
  rcases hat with h7|h7
  ·rw [h7] at hb'
   have:=(h1.lt b hb').2
   omega
  ·rw [h7] at hb'
   have:=Option.some.inj hb'
   omega
 ·rw [List.getElem?_eq_none (by simp;omega)] at hs;cases hs
theorem Grl.push2 (hP:Lay.Ok P) {W1:World} {rows:List Value} {r:Value} {x:α} {lo hi g cap:Nat}(h2:∀ (i:Nat) (r:Value) (x:α),rows[i]?=some r→xs[i]?=some x→∃ lo hi,base≤lo∧hi≤W.heap.size∧P W lo hi r x∧∀ b,v.ownBlock=some b→b<lo∨hi≤b)(h1:W.ownsRow base e 1 v xs.length rows)
  (hx:Ext W W1) (hr:P W1 lo hi r x) (hlo:W.heap.size≤lo) (hb:base≤lo) (hhi:hi≤W1.heap.size) (ziJ:W'.ownsRow base e 1 (.slice (some ⟨g,0,none⟩) (xs.length+1) cap) (xs.length+1) (rows++[r])) (hg:W1.grownBy W' v.ownBlock) (hat:v.ownBlock=some g∨g=W1.heap.size+1):Grl P W' base e (.slice (some ⟨g,0,none⟩) (xs.length+1) cap) (xs++[x]):=
 Grl.push hP h2 h1 hx hr hlo hb hhi ziJ hg (by
  rcases hat with h|h
  ·exact Or.inl h.symm
  ·exact Or.inr (by rw [h];rfl))
end
section
variable {P:Program} {ops:Array Oper} {Q:Exit→Act→World→Prop} {md:Region.Mode} {S:Array Bool→World→Prop}
def wpAnyL (P:Program) (md:Region.Mode) (ops:Array Oper) (Q:Exit→Act→World→Prop) (S:Array Bool→World→Prop):Nat→Array Bool→Act→World→Prop
 |0,listed,a,w=>Region.ready md ops listed=[]∧Q .normal a w
 |fuel+1,listed,a,w =>
  (Region.ready md ops listed=[]→Q .normal a w) ∧
  ∀ i∈Region.ready md ops listed,wpOp P ops Q i (fun a' w'=>S (listed.setIfInBounds i true) w'∧wpAnyL P md ops Q S fuel (listed.setIfInBounds i true) a' w') a w
theorem zhN:∀ (fuel:Nat) (listed:Array Bool) (a:Act) (w:World),wpAnyL P md ops Q S fuel listed a w→wpAny P md ops Q fuel listed a w
 |0,_,_,_,h=>h
 |fuel+1,_,_,_,h=>⟨h.1,fun i hi=>wpOp_mono (fun a' w' h'=>zhN fuel _ a' w' h'.2) (h.2 i hi)⟩
theorem wpAnyL_first {i:Nat} {oi:Oper} {v:Value} {Si:World→Prop} {G:Array Bool→Prop}(hi:ops[i]?=some oi)(hsel:∀ (j:Nat) (o:Oper) cs b,ops[j]?=some o→o.op≠.select cs b)
  (hQ:∀ c a w,Q (.panic c) (a.put oi.dst v) w→Q (.panic c) a w)
  (hG:∀ listed j,j∈Region.ready md ops listed→G listed→G (listed.setIfInBounds j true))
  (hSi:∀ listed w,G listed→listed.getD i true=false→S listed w→Si w)
  (hup:∀ listed w,S listed w→S (listed.setIfInBounds i true) w) (hdn:∀ listed w,listed.getD i true=false→S (listed.setIfInBounds i true) w→S listed w) :
  ∀ (fuel:Nat) (listed:Array Bool) (a:Act) (w:World),G listed →
   (∀ j oj,ops[j]?=some oj→j≠i→listed.getD j true=false→(∀ e∈oj.after,Region.binds md e=true→e.on≠i)→oi.apart ops oj=true) →
   i∈Region.ready md ops listed→YieldsIf P ops Si oi v a→S listed w →
   wpAnyL P md ops Q S fuel (listed.setIfInBounds i true) (a.put oi.dst v) w→wpAnyL P md ops Q S (fuel+1) listed a w:=by
 intro fuel
 induction fuel with
 |zero =>
  intro listed a w hg _ hr hy hS H
  refine⟨fun h=>(by rw [h] at hr;cases hr),fun j hj=>?_⟩
  by_cases hji:j=i
  ·subst hji;exact hy.wpOp hi (hSi _ _ hg (mem_ready.1 hr).1 hS) ⟨hup _ _ hS,H⟩
  ·have:=ready_mono hj hji
   rw [H.1] at this
   cases this
 |succ fuel ih =>
  intro listed a w hg hfree hr hy hS H
  refine⟨fun h=>(by rw [h] at hr;cases hr),fun j hj=>?_⟩
  by_cases hji:j=i
  ·subst hji;exact hy.wpOp hi (hSi _ _ hg (mem_ready.1 hr).1 hS) ⟨hup _ _ hS,H⟩
  ·have h1:=H.2 j (ready_mono hj hji)
   obtain⟨hjun,oj,hoj,hall⟩:=mem_ready.1 hj
   have hnot:∀ e∈oj.after,Region.binds md e=true→e.on≠i:=fun e he hb heq=>by
    have h1:=hall e he hb
    have h0:=(mem_ready.1 hr).1
    rw [heq] at h1
    rcases Nat.lt_or_ge i listed.size with h' | h'
    ·simp [h'] at h0 h1;rw [h0] at h1;cases h1
    ·simp [Array.getElem?_eq_none h'] at h1
   have h2:=wpOp_putIf hoj (hfree j oj hoj hji hjun hnot) (fun cs b=>hsel i oi cs b hi) (fun cs b=>hsel j oj cs b hoj) hQ hy h1
   have hfree':∀ k ok,ops[k]?=some ok→k≠i→(listed.setIfInBounds j true).getD k true=false →
     (∀ e∈ok.after,Region.binds md e=true→e.on≠i)→oi.apart ops ok=true:=fun k ok hk hki hun hno=>by
    refine hfree k ok hk hki ?_ hno
    by_cases hjk:j=k
    ·subst hjk;exact hjun
    ·rw [getD_set_ne true hjk] at hun;exact hun
   have hiun:(listed.setIfInBounds j true).getD i true=false:=by
    rw [getD_set_ne true hji];exact (mem_ready.1 hr).1
   refine wpOp_mono (fun a' w' h3=>?_) h2
   have h4:S (listed.setIfInBounds j true) w':=hdn _ _ hiun (by rw [Array.setIfInBounds_comm _ _ hji];exact h3.2.1)
   refine⟨h4,ih (listed.setIfInBounds j true) a' w' (hG _ _ hj hg) hfree' (ready_mono hr (Ne.symm hji)) h3.1 h4 ?_⟩
   rw [Array.setIfInBounds_comm _ _ hji]
   exact h3.2.2
end
def Clo (l:List Oper) (listed:Array Bool):Prop:=∀ j,listed.getD j false=true→∀ o,l[j]?=some o→∀ e∈o.after,Region.binds .any e=true→listed.getD e.on false=true
def below (l:List Oper):Nat→Nat→Nat→Bool
 |0,_,_=>false
 |f+1,t,i=>match l[t]? with
  |some o=>o.after.any fun e=>Region.binds .any e&&(e.on==i || below l f e.on i)
  |none=>false
theorem zhq {l:List Oper} {listed:Array Bool}(hc:Clo l listed):∀ (f t i:Nat),below l f t i=true→listed.getD t false=true→listed.getD i false=true
 |0,_,_,h,_=>by simp [below] at h
 |f+1,t,i,h,ht=>by
  unfold below at h
  cases ho:l[t]? with
  |none=>simp [ho] at h
  |some o =>
   simp only [ho] at h
   obtain⟨e,he,hb⟩:=Array.any_eq_true'.1 h
   simp only [Bool.and_eq_true,Bool.or_eq_true,beq_iff_eq] at hb
   have h1:=hc t ht o ho e he hb.1
   rcases hb.2 with h2|h2
   ·rw [← h2];exact h1
   ·exact zhq hc f e.on i h2 h1
theorem zcG {l:List Oper} {listed:Array Bool} {j:Nat}(hj:j∈Region.ready .any l.toArray listed)(h:Clo l listed):Clo l (listed.setIfInBounds j true):=by
 intro k hk o ho e he hb
 by_cases hkj:j=k
 ·subst hkj
  obtain⟨_,o',ho',hall⟩:=mem_ready.1 hj
  have:o'=o:=by
   have h1:l[j]?=some o':=by simpa using ho'
   rw [ho] at h1
   exact (Option.some.inj h1).symm
  subst this
  exact getD_set_true (hall e he hb)
 ·rw [getD_set_ne false hkj] at hk
  exact getD_set_true (h k hk o ho e he hb)
section
variable {P:Program} {l:List Oper} {Q:Exit→Act→World→Prop} {S:World→Prop} {T:List Nat}
def zgQ (T:List Nat) (listed:Array Bool):Prop:=∃ t∈T,listed.getD t false=true
theorem clo_start (l:List Oper):Clo l (Array.replicate l.length false):=by
 intro j hj
 exfalso
 rcases Nat.lt_or_ge j l.length with h|h
 ·simp [h] at hj
 ·simp [Nat.not_lt.2 h] at hj
end
theorem zbN {P:Program} (wb w:World) {o:Oper} {a:Act} {K:Act→World→Prop} {Q:Exit→Act→World→Prop} (s x:Operand) (t:TypeId)
  (ho:o.op=.call { callee:=.builtin .append,args:=#[s,x],argTypes:=#[t,t] })
  (e:TypeId) (z:Value) (size bytes:Nat) (ht:P.underlying t=some (.slice e)) (hi:(P.info? e).map (fun i=>(i.zero,i.size,i.bytes))=some (some z,size,bytes)) (hzs:z.cells.size=size) (hsz:0<size)
  (v:Value) (n:Nat) (xs:List Value) (us:Array Value) (e':TypeId) (hs:a.eval s=v) (hx:a.eval x=.slice (some ⟨w.heap.size,0,none⟩) 1 1)
  (ziL:wb.heap.size≤w.heap.size) (ziJ:w.ownsRow wb.heap.size e size v n xs) (hus:us.size=size) (h1:∀ u∈us.toList,u.oneCell'=true)
  (h63:n+1≤maxLen) (hbytes:(n+1)*bytes≤140737488355328)
  (h:∀ g cap w',w'.ownsRow wb.heap.size e size (.slice (some ⟨g,0,none⟩) (n+1) cap) (n+1) (xs++us.toList)→w.grownBy w' v.ownBlock→(v.ownBlock=some g∨g=w.heap.size+1)→g<w'.heap.size→K (a.put o.dst (.slice (some ⟨g,0,none⟩) (n+1) cap)) w') :
  o.wp P a (w.alloc (.cells us e')) K Q:=by
 obtain⟨i,hi0,hz0,hz1,hz2⟩:=info_parts hi
 refine wp_append_lies (w.alloc (.cells us e')) s x t ho wb.heap.size e i z size bytes ht hi0 hz0 hz1 hz2 hzs hsz v n xs hs (ziJ.alloc _) ⟨w.heap.size,0,none⟩ 1 1 us.toList hx (by simpa using hus) ?_ h1 (by omega) h63 hbytes (by simp;omega) (w.heap.size+1) (by simp) ?_
 ·intro j u hu
  rw [zaE,Nat.zero_add,(Blk.new w e' us).cell]
  simpa using hu
 ·intro g cap w' hown' hg hat hlt
  have hg':w.grownBy w' v.ownBlock:=⟨hg.os,hg.tape,hg.output,Nat.le_trans (by simp) hg.size,fun k hk hne=>(hg.block k (by simp;omega) hne).trans (Below.heap_alloc w _ k hk)⟩
  exact h g cap w' hown' hg' hat hlt
theorem zaZ {P:Program} (wb w:World) {ops:Array Oper} {rest:List Oper} {o:Oper} {a:Act} {Q:Exit→Act→World→Prop}(hgd:o.guard=none) (s x:Operand) (t:TypeId)
  (ho:o.op=.call { callee:=.builtin .append,args:=#[s,x],argTypes:=#[t,t] })
  (e:TypeId) (z:Value) (size bytes:Nat) (ht:P.underlying t=some (.slice e)) (hi:(P.info? e).map (fun i=>(i.zero,i.size,i.bytes))=some (some z,size,bytes)) (hzs:z.cells.size=size) (hsz:0<size)
  (v:Value) (n:Nat) (xs:List Value) (us:Array Value) (e':TypeId) (hs:a.eval s=v) (hx:a.eval x=.slice (some ⟨w.heap.size,0,none⟩) 1 1)
  (ziL:wb.heap.size≤w.heap.size) (ziJ:w.ownsRow wb.heap.size e size v n xs) (hus:us.size=size) (h1:∀ u∈us.toList,u.oneCell'=true)
  (h63:n+1≤maxLen) (hbytes:(n+1)*bytes≤140737488355328)
  (h:∀ g cap w',w'.ownsRow wb.heap.size e size (.slice (some ⟨g,0,none⟩) (n+1) cap) (n+1) (xs++us.toList)→w.grownBy w' v.ownBlock→(v.ownBlock=some g∨g=w.heap.size+1)→g<w'.heap.size→wpList P ops Q rest (a.put o.dst (.slice (some ⟨g,0,none⟩) (n+1) cap)) w') :
  wpList P ops Q (o :: rest) a (w.alloc (.cells us e')):=
 wpList_plain hgd fun _ hK=>zbN wb w s x t ho e z size bytes ht hi hzs hsz v n xs us e' hs hx ziL ziJ hus h1 h63 hbytes fun g cap w' h2 h3 h4 h5=>hK _ _ (h g cap w' h2 h3 h4 h5)
def zfy:Op→Bool
 |.makeFunc _ _ _ | .move _ | .assign _ | .pick _ _ _ | .binOp _ _ _ _ _ | .unOp _ _ _ | .fieldAddr _ _ _ | .field _ _ _ | .extract _ _ | .build _ _=>true
 |_=>false
def zcP:Op→Bool
 |.makeFunc _ _ _=>true
 |o=>zfz o
inductive zu where
 |nil:zu
 |one:Nat→zu→zu
 |two:Nat→zu→Nat→zu→zu
 |three:Nat→zu→Nat→zu→Nat→zu→zu
def zu.of:List Nat→zu
 |[]=>.nil
 |i :: r=>.one i (zu.of r)
def zu.app:List Nat→zu→zu
 |[],o=>o
 |i :: r,o=>.one i (zu.app r o)
def zcK (l:List Oper) (T:List Nat):zu→Array Bool→Bool
 |.nil,listed=>(Region.ready .any l.toArray listed).isEmpty
 |.one i rest,listed =>
  (match l[i]? with
   |some o=>if zcP o.op then Region.free .any l.toArray listed i&&(Region.ready .any l.toArray listed).contains i&&!T.contains i&&(zfy o.op || T.all fun t=>below l l.length t i)
    else Region.ready .any l.toArray listed==[i]
   |none=>false)&&zcK l T rest (listed.setIfInBounds i true)
 |.two i r j r',listed=>(i<l.length&&j<l.length&&Region.ready .any l.toArray listed==[i,j])&&(zcK l T r (listed.setIfInBounds i true)&&zcK l T r' (listed.setIfInBounds j true))
 |.three i r j r' k r'',listed=>(i<l.length&&j<l.length&&k<l.length&&Region.ready .any l.toArray listed==[i,j,k])&&(zcK l T r (listed.setIfInBounds i true)&&zcK l T r' (listed.setIfInBounds j true)&&zcK l T r'' (listed.setIfInBounds k true))
def zae (P:Program) (l:List Oper) (T:List Nat) (Q:Exit→Act→World→Prop) (S:World→Prop):zu→Act→World→Prop
 |.nil,a,w=>Q .normal a w
 |.one i rest,a,w=>match l[i]? with
  |some o=>if zcP o.op then ∃ v,YieldsIf P l.toArray (if zfy o.op then fun _=>True else S) o v a∧zae P l T Q S rest (a.put o.dst v) w
   else wpOp P l.toArray Q i (fun a' w'=>(T.contains i=false→S w')∧zae P l T Q S rest a' w') a w
  |none=>False
 |.two i r j r',a,w=>wpOp P l.toArray Q i (fun a' w'=>(T.contains i=false→S w')∧zae P l T Q S r a' w') a w∧wpOp P l.toArray Q j (fun a' w'=>(T.contains j=false→S w')∧zae P l T Q S r' a' w') a w
 |.three i r j r' k r'',a,w=>wpOp P l.toArray Q i (fun a' w'=>(T.contains i=false→S w')∧zae P l T Q S r a' w') a w∧wpOp P l.toArray Q j (fun a' w'=>(T.contains j=false→S w')∧zae P l T Q S r' a' w') a w∧wpOp P l.toArray Q k (fun a' w'=>(T.contains k=false→S w')∧zae P l T Q S r'' a' w') a w
def zu.len:zu→Nat
 |.nil=>0
 |.one _ r=>r.len+1
 |.two _ r _ _=>r.len+1
 |.three _ r _ _ _ _=>r.len+1
def zu.even:zu→Bool
 |.nil=>true
 |.one _ r=>r.even
 |.two _ r _ r'=>r.len==r'.len&&(r.even&&r'.even)
 |.three _ r _ r' _ r''=>(r.len==r'.len&&r.len==r''.len)&&(r.even&&r'.even&&r''.even)
section
variable {P:Program} {l:List Oper} {Q:Exit→Act→World→Prop} {S:World→Prop} {T:List Nat}
theorem zbx (hs:Region.noSelect l.toArray=true)(hQ:∀ (c:List PanicEntry) (a:Act) (d:Tmp) (v:Value) (w:World),Q (.panic c) (a.put (some d) v) w→Q (.panic c) a w) :
  ∀ (ord:zu) (listed:Array Bool) (a:Act) (w:World),listed.size=l.length→Clo l listed→ord.even=true→zcK l T ord listed=true→(zgQ T listed∨S w)→zae P l T Q S ord a w →
   wpAnyL P .any l.toArray Q (fun listed w=>zgQ T listed∨S w) ord.len listed a w
 |.nil,listed,a,w,_,_,_,hok,_,h=>by
  simp only [zcK,List.isEmpty_iff] at hok
  exact⟨hok,h⟩
 |.one i rest,listed,a,w,hsz,hc,hev,hok,hS,h=>by
  cases ho:l[i]? with
  |none=>simp [zcK,ho] at hok
  |some o =>
   have hil:i<l.length:=(List.getElem?_eq_some_iff.1 ho).1
   simp only [zcK,ho,Bool.and_eq_true] at hok
   simp only [zae,ho] at h
   by_cases hq:zcP o.op=true
   ·rw [if_pos hq] at hok h
    simp only [Bool.and_eq_true] at hok
    obtain⟨⟨⟨⟨hf,hrd⟩,hnT⟩,hpure⟩,hrest⟩:=hok
    obtain⟨v,hy,hr⟩:=h
    have hmem:i∈Region.ready .any l.toArray listed:=by simpa using hrd
    have hnT':i∉T:=by simpa using hnT
    have hset:∀ listed:Array Bool,zgQ T (listed.setIfInBounds i true)↔zgQ T listed:=fun listed=>by
     constructor
     ·rintro ⟨t,ht,hl⟩
      refine⟨t,ht,?_⟩
      rwa [getD_set_ne false (by rintro rfl;exact hnT' ht)] at hl
     ·rintro ⟨t,ht,hl⟩
      exact⟨t,ht,getD_set_true hl⟩
    refine wpAnyL_first (G:=fun listed=>Clo l listed∧listed.size=l.length) (by simpa using ho) (Region.noSelect_spec hs)
     (fun c a w h=>by cases hd:o.dst with|none=>rw [hd] at h;exact h|some d=>rw [hd] at h;exact hQ c a d v w h)
     (fun li j hj hg=>⟨zcG hj hg.1,by simpa using hg.2⟩) ?_ (fun li w h=>h.imp (fun x=>(hset li).2 x) id) (fun li w _ h=>h.imp (fun x=>(hset li).1 x) id)
     rest.len listed a w ⟨hc,hsz⟩ (Region.free_spec (by simpa using ho) hf) hmem hy hS ?_
    ·intro li w' hg hun h
     by_cases hp:zfy o.op=true
     ·rw [if_pos hp];trivial
     ·rw [if_neg hp]
      rcases h with ⟨t,ht,hl⟩|h
      ·exfalso
       simp only [hp,Bool.false_or] at hpure
       have hb:=List.all_eq_true.1 hpure t ht
       have h1:=zhq hg.1 _ _ _ hb hl
       have h2:i<li.size:=by rw [hg.2];exact hil
       simp [h2] at hun h1
       rw [h1] at hun;cases hun
      ·exact h
    ·exact zbx hs hQ rest _ _ _ (by simpa using hsz) (zcG hmem hc) hev hrest (hS.imp (fun x=>(hset _).2 x) id) hr
   ·rw [if_neg hq] at hok h
    have hready:Region.ready .any l.toArray listed=[i]:=by simpa using hok.1
    have hmem:i∈Region.ready .any l.toArray listed:=by rw [hready];simp
    refine⟨fun h0=>(by rw [h0] at hready;cases hready),fun j hj=>?_⟩
    rw [hready] at hj
    rw [List.mem_singleton.1 hj]
    refine wpOp_mono (fun a' w' h=>?_) h
    have hS':zgQ T (listed.setIfInBounds i true)∨S w':=by
     cases hT:T.contains i
     ·exact Or.inr (h.1 hT)
     ·refine Or.inl ⟨i,by simpa using hT,?_⟩
      have:i<listed.size:=by omega
      simp [this]
    exact⟨hS',zbx hs hQ rest _ _ _ (by simpa using hsz) (zcG hmem hc) hev hok.2 hS' h.2⟩
 |.two i r j r',listed,a,w,hsz,hc,hev,hok,hS,h=>by
  simp only [zu.even,Bool.and_eq_true,beq_iff_eq] at hev
  simp only [zcK,Bool.and_eq_true,decide_eq_true_eq,beq_iff_eq] at hok
  simp only [zae] at h
  obtain⟨⟨⟨hi,hj⟩,hready⟩,hok1,hok2⟩:=hok
  have hlen:(zu.two i r j r').len=r.len+1:=rfl
  rw [hlen]
  have hm:∀ k,k∈Region.ready .any l.toArray listed↔k=i∨k=j:=fun k=>by rw [hready];simp
  have hS':∀ k w',k<l.length→(T.contains k=false→S w')→zgQ T (listed.setIfInBounds k true)∨S w':=fun k w' hk hx=>by
   cases hT:T.contains k
   ·exact Or.inr (hx hT)
   ·refine Or.inl ⟨k,by simpa using hT,?_⟩
    have:k<listed.size:=by omega
    simp [this]
  refine⟨fun h0=>(by rw [h0] at hready;cases hready),fun k hk=>?_⟩
  rcases (hm k).1 hk with hk' | hk'
  ·rw [hk'] at hk ⊢
   refine wpOp_mono (fun a' w' h=>?_) h.1
   exact⟨hS' _ _ hi h.1,zbx hs hQ r _ _ _ (by simpa using hsz) (zcG hk hc) hev.2.1 hok1 (hS' _ _ hi h.1) h.2⟩
  ·rw [hk'] at hk ⊢
   refine wpOp_mono (fun a' w' h=>?_) h.2
   have:=zbx hs hQ r' _ _ _ (by simpa using hsz) (zcG hk hc) hev.2.2 hok2 (hS' _ _ hj h.1) h.2
   rw [← hev.1] at this
   exact⟨hS' _ _ hj h.1,this⟩
 |.three i r j r' k r'',listed,a,w,hsz,hc,hev,hok,hS,h=>by
  simp only [zu.even,Bool.and_eq_true,beq_iff_eq] at hev
  simp only [zcK,Bool.and_eq_true,decide_eq_true_eq,beq_iff_eq] at hok
  simp only [zae] at h
  obtain⟨⟨⟨⟨hi,hj⟩,hk⟩,hready⟩,⟨hok1,hok2⟩,hok3⟩:=hok
  obtain⟨⟨e1,e2⟩,⟨v1,v2⟩,v3⟩:=hev
  have hlen:(zu.three i r j r' k r'').len=r.len+1:=rfl
  rw [hlen]
  have hm:∀ x,x∈Region.ready .any l.toArray listed↔x=i∨x=j∨x=k:=fun x=>by rw [hready];simp
  have hS':∀ k w',k<l.length→(T.contains k=false→S w')→zgQ T (listed.setIfInBounds k true)∨S w':=fun k w' hk hx=>by
   cases hT:T.contains k
   ·exact Or.inr (hx hT)
   ·refine Or.inl ⟨k,by simpa using hT,?_⟩
    have:k<listed.size:=by omega
    simp [this]
  refine⟨fun h0=>(by rw [h0] at hready;cases hready),fun x hx=>?_⟩
  rcases (hm x).1 hx with hx' | hx' | hx'
  ·rw [hx'] at hx ⊢
   refine wpOp_mono (fun a' w' h=>?_) h.1
   exact⟨hS' _ _ hi h.1,zbx hs hQ r _ _ _ (by simpa using hsz) (zcG hx hc) v1 hok1 (hS' _ _ hi h.1) h.2⟩
  ·rw [hx'] at hx ⊢
   refine wpOp_mono (fun a' w' h=>?_) h.2.1
   have:=zbx hs hQ r' _ _ _ (by simpa using hsz) (zcG hx hc) v2 hok2 (hS' _ _ hj h.1) h.2
   rw [← e1] at this
   exact⟨hS' _ _ hj h.1,this⟩
  ·rw [hx'] at hx ⊢
   refine wpOp_mono (fun a' w' h=>?_) h.2.2
   have:=zbx hs hQ r'' _ _ _ (by simpa using hsz) (zcG hx hc) v3 hok3 (hS' _ _ hk h.1) h.2
   rw [← e2] at this
   exact⟨hS' _ _ hk h.1,this⟩
theorem zba {id:Nat} {a:Act} {w:World} (S:World→Prop) (T:List Nat) (ord:zu)(hm:P.follows .mixedOrders=true)(hlen:ord.len=l.length)(hev:ord.even=true)(hs:Region.noSelect l.toArray=true)(hok:zcK l T ord (Array.replicate l.length false)=true)
  (hQ:∀ (c:List PanicEntry) (a:Act) (d:Tmp) (v:Value) (w:World),Q (.panic c) (a.put (some d) v) w→Q (.panic c) a w) (hS:S w.drew) (h:zae P l T Q S ord a w.drew):(Code.region id l.toArray true).wp P Q a w:=by
 refine wp_region_any hm ?_
 have:=zhN _ _ _ _ (zbx hs hQ ord _ a w.drew (by simp) (clo_start l) hev hok (Or.inr hS) h)
 rw [hlen] at this
 simpa using this
theorem zf {a:Act} {w:World}(h:Q .normal a w):zae P l T Q S .nil a w:=h
theorem useq_pure {i:Nat} {rest:zu} {o:Oper} {v:Value} {a:Act} {w:World}(ho:l[i]?=some o)(hq:zcP o.op=true) (_hp:zfy o.op=true)(hw:Region.wanted o (yielded l.toArray a.tmps)=true)
  (hy:∀ W,(execOp a.eval o).run P W=.ok (.value v) W) (h:zae P l T Q S rest (a.put o.dst v) w):zae P l T Q S (.one i rest) a w:=by
 simp only [zae,ho,hq,if_true]
 exact⟨v,.inl ⟨hw,fun W _=>hy W⟩,h⟩
theorem zbm {i:Nat} {rest:zu} {o:Oper} {v:Value} {a:Act} {w:World}(ho:l[i]?=some o)(hq:zcP o.op=true)(hp:zfy o.op=false)(hw:Region.wanted o (yielded l.toArray a.tmps)=true)
  (hy:∀ W,S W→(execOp a.eval o).run P W=.ok (.value v) W) (h:zae P l T Q S rest (a.put o.dst v) w):zae P l T Q S (.one i rest) a w:=by
 simp only [zae,ho,hq,hp,if_true]
 exact⟨v,.inl ⟨hw,hy⟩,h⟩
theorem useq_skip {i:Nat} {rest:zu} {o:Oper} {a:Act} {w:World}(ho:l[i]?=some o)(hw:Region.wanted o (yielded l.toArray a.tmps)=false)
  (hS:S w) (h:zae P l T Q S rest (a.put o.dst undef) w):zae P l T Q S (.one i rest) a w:=by
 simp only [zae,ho]
 split
 ·exact⟨undef,.inr ⟨hw,rfl⟩,h⟩
 ·unfold wpOp
  simp only [List.getElem?_toArray,ho,hw,Bool.false_eq_true,if_false]
  exact⟨fun _=>hS,h⟩
theorem ze {i:Nat} {rest:zu} {o:Oper} {a:Act} {w:World}
  (h:∀ K:Act→World→Prop,Shut (∀ a w,S w→zae P l T Q S rest a w→K a w)→o.wp P a w K Q) (ho:l[i]?=some o:=by rfl) (hq:zcP o.op=false:=by rfl) (hw:Region.wanted o (yielded l.toArray a.tmps)=true:=by rfl):zae P l T Q S (.one i rest) a w:=by
 simp only [zae,ho,hq]
 unfold wpOp
 simp only [List.getElem?_toArray,ho,hw,if_true]
 exact .inl (h _ fun a w hS hW=>⟨fun _=>hS,hW⟩)
theorem zb {i:Nat} {rest:zu} {o:Oper} {a:Act} {w:World}
  (h:∀ K:Act→World→Prop,Shut (∀ a w,zae P l T Q S rest a w→K a w)→o.wp P a w K Q) (ho:l[i]?=some o:=by rfl) (hq:zcP o.op=false:=by rfl) (hT:T.contains i=true:=by rfl) (hw:Region.wanted o (yielded l.toArray a.tmps)=true:=by rfl):zae P l T Q S (.one i rest) a w:=by
 simp only [zae,ho,hq]
 unfold wpOp
 simp only [List.getElem?_toArray,ho,hw,if_true]
 exact .inl (h _ fun a w hW=>⟨fun hn=>absurd (hn.symm.trans hT) (by decide),hW⟩)
end
section
variable {P:Program} {l:List Oper} {Q:Exit→Act→World→Prop} {S:World→Prop} {T:List Nat}
theorem zm {i j:Nat} {r r':zu} {o o':Oper} {a:Act} {w:World}
  (h1:∀ K:Act→World→Prop,Shut (∀ a w,S w→zae P l T Q S r a w→K a w)→o.wp P a w K Q) (h2:∀ K:Act→World→Prop,Shut (∀ a w,S w→zae P l T Q S r' a w→K a w)→o'.wp P a w K Q) (ho:l[i]?=some o:=by rfl) (ho':l[j]?=some o':=by rfl) (hw:Region.wanted o (yielded l.toArray a.tmps)=true:=by rfl) (hw':Region.wanted o' (yielded l.toArray a.tmps)=true:=by rfl):zae P l T Q S (.two i r j r') a w:=by
 constructor
 ·unfold wpOp
  simp only [List.getElem?_toArray,ho,hw,if_true]
  exact .inl (h1 _ fun a w hS hW=>⟨fun _=>hS,hW⟩)
 ·unfold wpOp
  simp only [List.getElem?_toArray,ho',hw',if_true]
  exact .inl (h2 _ fun a w hS hW=>⟨fun _=>hS,hW⟩)
theorem zay {i j k:Nat} {r r' r'':zu} {o o' o'':Oper} {a:Act} {w:World}
  (h1:∀ K:Act→World→Prop,Shut (∀ a w,S w→zae P l T Q S r a w→K a w)→o.wp P a w K Q) (h2:∀ K:Act→World→Prop,Shut (∀ a w,S w→zae P l T Q S r' a w→K a w)→o'.wp P a w K Q) (h3:∀ K:Act→World→Prop,Shut (∀ a w,S w→zae P l T Q S r'' a w→K a w)→o''.wp P a w K Q) (ho:l[i]?=some o:=by rfl) (ho':l[j]?=some o':=by rfl) (ho'':l[k]?=some o'':=by rfl) (hw:Region.wanted o (yielded l.toArray a.tmps)=true:=by rfl) (hw':Region.wanted o' (yielded l.toArray a.tmps)=true:=by rfl) (hw'':Region.wanted o'' (yielded l.toArray a.tmps)=true:=by rfl):zae P l T Q S (.three i r j r' k r'') a w:=by
 refine⟨?_,?_,?_⟩
 ·unfold wpOp
  simp only [List.getElem?_toArray,ho,hw,if_true]
  exact .inl (h1 _ fun a w hS hW=>⟨fun _=>hS,hW⟩)
 ·unfold wpOp
  simp only [List.getElem?_toArray,ho',hw',if_true]
  exact .inl (h2 _ fun a w hS hW=>⟨fun _=>hS,hW⟩)
 ·unfold wpOp
  simp only [List.getElem?_toArray,ho'',hw'',if_true]
  exact .inl (h3 _ fun a w hS hW=>⟨fun _=>hS,hW⟩)
end
theorem uQ {A B:Prop}(h:B) (k:Bx B→A:=by
 intro h0
 repeat (first|(refine useq_skip rfl rfl (by assumption) ?_;simp only [Act.put,List.setIfInBounds_toArray,List.set_cons_zero,List.set_cons_succ])|(refine useq_pure (v:=?_) rfl rfl rfl rfl (fun X=>?_) ?_;rotate_left;(focus (go_simp<;>with_reducible rfl));simp only [Act.put,List.setIfInBounds_toArray,List.set_cons_zero,List.set_cons_succ])|(refine zbm (v:=?_) rfl rfl rfl rfl (fun X hX=>?_) ?_;rotate_left;(focus (go_simp<;>with_reducible rfl));simp only [Act.put,List.setIfInBounds_toArray,List.set_cons_zero,List.set_cons_succ]))
 exact h0.out):A:=k ⟨h⟩
theorem uR {P:Program} {l:List Oper} {Q:Exit→Act→World→Prop} {id:Nat} {a:Act} {w:World} (S:World→Prop) (T:List Nat) (ord:zu)(h:zae P l T Q S ord a w.drew)(hm:P.follows .mixedOrders=true:=by kernel_rfl)(hlen:ord.len=l.length:=by kernel_rfl)(hev:ord.even=true:=by kernel_rfl)(hs:Region.noSelect l.toArray=true:=by kernel_rfl)(hok:zcK l T ord (Array.replicate l.length false)=true:=by kernel_rfl)
  (hQ:∀ (c:List PanicEntry) (a:Act) (d:Tmp) (v:Value) (w:World),Q (.panic c) (a.put (some d) v) w→Q (.panic c) a w:=by exact fun _ _ _ _ _ h=>h) (hS:S w.drew:=by first|assumption|exact (Ext.refl _).drew|(refine Ext.drew ?_;assumption)):(Code.region id l.toArray true).wp P Q a w:=
 zba S T ord hm hlen hev hs hok hQ hS h
end Go.Proofs.YtcfchopfijalpaaGreatDoor
