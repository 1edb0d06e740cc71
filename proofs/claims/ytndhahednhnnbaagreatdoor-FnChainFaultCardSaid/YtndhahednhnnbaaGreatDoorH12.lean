/- The words that break a property are words, and not too long. No program in sight. | The reference's FirstViolation and l12Judge, walked. | The reference's l12Run, walked at valid arguments. | The reference's l12Run, walked at valid arguments: the walk. | The reference's VerifyPair, walked at valid arguments. | The laws' own marks on automata, and what is held of them, walked. | CertificateOf of the program and of the reference, walked. | The reference's VerifyPair and CertifyPair at all arguments. | Plain: a step of learning that succeeds makes the table longer. No program in sight. | -/
import Derived.Test.YtndhahednhnnbaaGreatDoorH06
import Derived.Test.YtndhahednhnnbaaGreatDoorH07
import Derived.Test.YtndhahednhnnbaaGreatDoorH08
import Derived.Test.YtndhahednhnnbaaGreatDoorH11
import Derived.Test.YtndhahednhnnbaaGreatDoorH02
import Derived.Test.YtndhahednhnnbaaGreatDoorH01
import Derived.Test.YtndhahednhnnbaaGreatDoorH04
namespace Go.Proofs.YtndhahednhnnbaaGreatDoor
open Go Go.RowKit
section
variable {d:Nat→Nat→List Nat} {start L:List Nat} {goal:Nat→Bool} {N:Nat}
theorem zgd (h:¬ Lost d start goal L):∃ v,Found d start goal L v:=by
 have h1:∃ v,(∀ l∈v,l∈L)∧∃ x,Goes d start v x∧goal x=true:=by
  apply Classical.byContradiction
  intro hn
  apply h
  intro v hv x hx
  cases hg:goal x with
  |false=>rfl
  |true=>exact absurd ⟨v,hv,x,hx,hg⟩ hn
 have key:∀ n v,wval v=n→(∀ l∈v,l∈L)→(∃ x,Goes d start v x∧goal x=true)→∃ v,Found d start goal L v:=by
  intro n
  induction n using Nat.strongRecOn with
  |ind n ih =>
   intro v hn hv hx
   by_cases hm:∃ u,(∀ l∈u,l∈L)∧wval u<wval v∧∃ x,Goes d start u x∧goal x=true
   ·obtain⟨u,hu,hlt,hux⟩:=hm
    exact ih (wval u) (by omega) u rfl hu hux
   ·refine⟨v,hv,hx,fun u hu hlt x hgx=>?_⟩
    cases hg:goal x with
    |false=>rfl
    |true=>exact absurd ⟨u,hu,hlt,x,hgx,hg⟩ hm
 obtain⟨v,hv,hx⟩:=h1
 exact key _ v rfl hv hx
theorem found_len {v:List Nat}(h:Found d [0] goal L v)(h6:∀ l∈L,l<6)(hN:0<N)(hd:∀ x l,x<N→l∈L→∀ y∈d x l,y<N):v.length<N:=by
 obtain⟨hv,⟨x,hx,hg⟩,hmin⟩:=h
 obtain⟨x0,h0,hdn⟩:=Goes.dn (L:=L) (v:=[]) (u:=v) (goal:=goal) (by simpa using hx) hg hv
 have hx0:x0=0:=by have:=h0.inv_nil;simpa using this
 subst hx0
 have hex:∃ n,Mn d L goal n 0∧n≤v.length:=by
  have key:∀ n,Dn d L goal n 0→∃ m,Mn d L goal m 0∧m≤n:=by
   intro n
   induction n using Nat.strongRecOn with
   |ind n ih =>
    intro hn
    by_cases hm:∃ m,m<n∧Dn d L goal m 0
    ·obtain⟨m,hmn,hm⟩:=hm
     obtain⟨k,h1,h2⟩:=ih m hmn hm
     exact⟨k,h1,by omega⟩
    ·exact⟨n,⟨hn,fun m hmn hm'=>hm ⟨m,hmn,hm'⟩⟩,Nat.le_refl _⟩
  exact key _ hdn
 obtain⟨n,hn,-⟩:=hex
 have hnN:=hn.lt hN hd
 obtain⟨u,hul,huL,y,hy,hgy⟩:=Dn.word (v:=[]) (start:=[0]) hn.1 (.nil (by simp))
 rcases Nat.lt_or_ge n v.length with hlt|hge
 ·have:=hmin u huL (zfY (fun l hl=>h6 l (hv l hl)) (fun l hl=>h6 l (huL l hl)) (by omega)) y (by simpa using hy)
  rw [hgy] at this;cases this
 ·omega
theorem firstW_ok (h6:∀ l∈L,l<6)(hN:0<N)(hd:∀ x l,x<N→l∈L→∀ y∈d x l,y<N):(∀ l∈zeL d [0] goal L,l<6)∧(zeL d [0] goal L).length<N:=by
 by_cases h:Lost d [0] goal L
 ·rw [(zgq h).1]
  exact⟨by simp,by simpa using hN⟩
 ·obtain⟨v,hv⟩:=zgd h
  rw [(zfx h6 hv).1]
  exact⟨fun l hl=>h6 l (hv.1 l hl),found_len hv h6 hN hd⟩
end
theorem wstr_word {v:List Nat}(h6:∀ l∈v,l<6)(hl:v.length≤50000):zbz (wstr v)=true:=by
 unfold zbz
 simp only [Bool.and_eq_true,decide_eq_true_eq]
 refine⟨by rw [zfX];exact hl,?_⟩
 rw [List.all_eq_true]
 intro b hb
 unfold wstr lbs at hb
 rw [strOfNums_data,List.map_map] at hb
 obtain⟨l,hl,rfl⟩:=List.mem_map.1 hb
 have hl6:=h6 l hl
 have key:∀ l,l<6→zda (UInt8.ofNat (97+l))=true:=by decide
 have e:((fun n:Int=>UInt8.ofNat n.toNat) ∘ fun l:Nat=>((97+l:Nat):Int)) l=UInt8.ofNat (97+l):=by
  show UInt8.ofNat (((97+l:Nat):Int)).toNat=_
  rw [Int.toNat_natCast]
 first
  |(rw [e];exact key l hl6)
  |(have:=key l hl6;simpa using this)
theorem vioW_word {ss:List Sys} {a p:Aut}(hss:∀ s∈ss,zj s=true)(ha:zg a=true)(hp:zg p=true)(hN:zB (mems ss [a,p])≤50000):zbz (vioW ss a p)=true∧(vioW ss a p).size<zB (mems ss [a,p]):=by
 have hm:∀ m∈mems ss [a,p],zdt m:=by
  intro m hm
  unfold mems at hm
  rcases List.mem_append.1 hm with h|h
  ·obtain⟨s,hs,rfl⟩:=List.mem_map.1 h
   exact zdQ (zci (hss s hs))
  ·simp at h
   rcases h with rfl|rfl
   ·exact zbs ha
   ·exact zbs hp
 obtain⟨h1,h2⟩:=firstW_ok (d:=brkD ss a p) (goal:=brkG a p) (L:=letters (zJ ss|||a.al.toNat) 6) (N:=zB (mems ss [a,p])) (fun l hl=>(zD.1 hl).1) (zek hm) (fun x l _ hl y hy=>by
  rw [zcG] at hy
  exact zgs hm (zD.1 hl).1 y hy)
 unfold vioW
 exact⟨wstr_word h1 (by omega),by rw [zfX];exact h2⟩
theorem prod_le {ss:List Sys} {a p:Aut}(hss:∀ s∈ss,zj s=true):zB (mems ss [a,p])≤16 ^ ss.length*(a.next.length*p.next.length):=by
 induction ss with
 |nil=>simp [mems,zB,zaj,aMem]
 |cons s r ih =>
  have h1:=ih (fun s hs=>hss s (List.mem_cons_of_mem _ hs))
  have h2:s.st.toNat≤16:=by have:=(zci (hss s List.mem_cons_self)).2.1;omega
  show zB (sMem s :: mems r [a,p])≤_
  rw [zcx,List.length_cons,Nat.pow_succ]
  calc s.st.toNat*zB (mems r [a,p])≤16*(16 ^ r.length*(a.next.length*p.next.length)):=Nat.mul_le_mul h2 h1
   _=16 ^ r.length*16*(a.next.length*p.next.length):=by rw [← Nat.mul_assoc,Nat.mul_comm 16]
theorem zdT {s:Sys} {a p:Aut}(hs:zj s=true)(ha:zg a=true)(hp:zg p=true):zbz (zbd s a p)=true∧(zbd s a p).size≤2304:=by
 have h1:=(zi ha).2.1.2
 have h2:=(zi hp).2.1.2
 have h3:=prod_le (ss:=[s]) (a:=a) (p:=p) (by simpa using hs)
 have h4:a.next.length*p.next.length≤12*12:=Nat.mul_le_mul h1 h2
 simp only [List.length_singleton,Nat.pow_one] at h3
 obtain⟨h5,h6⟩:=vioW_word (ss:=[s]) (by simpa using hs) ha hp (by omega)
 unfold zbd
 rw [if_pos (by unfold zca;rw [hs,ha,hp];rfl)]
 exact⟨h5,by omega⟩
theorem zex {ss:List Sys} {p:Aut}(hss:zv ss=true)(hp:zg p=true):zbz (zat ss p)=true∧(zat ss p).size<16 ^ ss.length*12:=by
 obtain⟨⟨h0,h03⟩,hv⟩:=zan hss
 have h2:=(zi hp).2.1.2
 have h3:=prod_le (a:=free) (p:=p) hv
 have h4:free.next.length*p.next.length≤1*12:=Nat.mul_le_mul (Nat.le_refl _) h2
 have h5:zB (mems ss [free,p])≤16 ^ ss.length*12:=Nat.le_trans h3 (Nat.mul_le_mul_left _ (by omega))
 have h6:16 ^ ss.length≤16 ^ 3:=Nat.pow_le_pow_right (by omega) h03
 have h7:16 ^ ss.length*12≤4096*12:=Nat.mul_le_mul_right _ h6
 obtain⟨h8,h9⟩:=vioW_word hv zdm hp (by omega)
 unfold zat
 rw [if_pos (by unfold zcw;rw [hss,hp];rfl)]
 exact⟨h8,by omega⟩
set_option maxHeartbeats 2000000
noncomputable def zdy (s:Sys) (p:Aut) (t:Sys) (L:Nat) (a:Aut):ByteArray × Int:=
 if zbc s a p=true then (zaY (zbd s a p) L,-1)
 else if zbH [t] a=true then (zaY (zat [t] a) L,if zq s p L (zaY (zat [t] a) L)=true then -1 else 1)
 else (⟨#[]⟩,0)
section
variable {w:World} {lo hi n c lo1 hi1 m d m' d' lo2 hi2 k c2 k1 d1 k1' d1' L:Nat} {A B B' C X X':Option Addr} {s t:Sys} {p a:Aut}
set_option maxRecDepth 100000 in
theorem zdR (ht:zQ w lo hi C k t)(ha:zF w lo1 hi1 X k1 X' k1' a) :
  Calls Tryz.prog 222 #[.agg #[.int .i64 t.al,.int .i64 t.st,.slice C k c2],.agg #[.int .i64 a.al,.slice X k1 d1,.slice X' k1' d1']] w fun e w'=>e=.returned (.tuple #[.string (zat [t] a),.bool (zbH [t] a)])∧Ext w w':=by
 have HT:=hide (fun W (hW:Ext w W)=>ht.ext hW)
 have HA:=hide (fun W (hW:Ext w W)=>ha.ext hW)
 have hx0:Ext w ((w.alloc (.cells #[.int .i64 t.al,.int .i64 t.st,.slice C k c2] 39)).alloc (.cells #[.int .i64 a.al,.slice X k1 d1,.slice X' k1' d1'] 27)):=((Ext.refl _).alloc _).alloc _
 obtain⟨b1,b2⟩:=zR (Ext.refl ((w.alloc (.cells #[.int .i64 t.al,.int .i64 t.st,.slice C k c2] 39)).alloc (.cells #[.int .i64 a.al,.slice X k1 d1,.slice X' k1' d1'] 27)))
 clear ht ha
 go_enter Tryz.func222,Tryz.ntmps222
 go_upto_region 1 with fail
 generalize (w.alloc (.cells #[.int .i64 t.al,.int .i64 t.st,.slice C k c2] 39)).alloc (.cells #[.int .i64 a.al,.slice X k1 d1,.slice X' k1' d1'] 27)=w0 at *
 have c1:=b1.cell
 have hx1:=(Ext.refl w0).alloc (.cells #[.int .i64 t.al,.int .i64 t.st,.slice C k c2] 39)
 have bs:=Blk.new w0 39 #[.int .i64 t.al,.int .i64 t.st,.slice C k c2]
 obtain⟨lo3,hi3,hsl⟩:=sl_one bs (HT.out _ (hx0.trans hx1))
 have c2':=(b2.ext hx1).cell
 have HP:=hide (zaJ (c:=1) (d2:=d1) (d2':=d1') hsl (HA.out _ (hx0.trans hx1)))
 clear hsl bs
 go_wp2_with fail
 refine HP.out.mono ?_
 rintro e w2 ⟨rfl,hx2⟩
 go_wp2_with fail
 go_ret2
 exact⟨rfl,(hx0.trans hx1).trans hx2⟩
set_option maxRecDepth 100000 in
theorem zgP (h:Tch w A n B m B' m' s p L)(ht:zQ w lo hi C k t)(ha:zF w lo1 hi1 X k1 X' k1' a) (vt:zj t=true) (va:zg a=true) :
  Calls Tryz.prog 216 #[.agg #[.int .i64 t.al,.int .i64 t.st,.slice C k c2],.agg #[.int .i64 s.al,.int .i64 s.st,.slice A n c,.int .i64 p.al,.slice B m d,.slice B' m' d',.int .i64 L],.agg #[.int .i64 a.al,.slice X k1 d1,.slice X' k1' d1']] w fun e w'=>e=.returned (.tuple #[.string (zdy s p t L a).1,.int .i64 (zdy s p t L a).2])∧Ext w w':=by
 have hL:=h.lt
 have HU:=hide (fun W (hW:Ext w W)=>by
  obtain⟨lo,hi,h1,h2,_⟩:=h.at_
  exact zbl (c:=c) (d1:=d1) (d1':=d1') (d2:=d) (d2':=d') (h1.ext hW) (ha.ext hW) (h2.ext hW))
 have HS:=hide (fun W (hW:Ext w W) (y:ByteArray) hy=>by
  obtain⟨lo,hi,h1,h2,h3⟩:=h.at_
  exact zcN (c:=c) (d:=d) (d':=d') (L:=L) (t:=y) (h1.ext hW) (h2.ext hW) h.sv h.pv h.lt (Nat.le_trans h3 hW.size) hy)
 have HF:=hide (fun W (hW:Ext w W)=>zdR (c2:=c2) (d1:=d1) (d1':=d1') (ht.ext hW) (ha.ext hW))
 have hu:=hide (zdT h.sv va h.pv)
 have hb:=hide (zex (ss:=[t]) (p:=a) (by unfold zv;simp [vt]) va)
 have Hj:=hide (show zdy s p t L a=if zbc s a p=true then (zaY (zbd s a p) L,-1)
  else if zbH [t] a=true then (zaY (zat [t] a) L,if zq s p L (zaY (zat [t] a) L)=true then -1 else 1)
  else (⟨#[]⟩,0) from rfl)
 generalize zdy s p t L a=J at *
 obtain⟨uw,huw⟩:∃ uw,Hid (zbd s a p=uw):=⟨_,rfl⟩
 obtain⟨bw,hbw⟩:∃ bw,Hid (zat [t] a=bw):=⟨_,rfl⟩
 rw [huw.out] at HU hu Hj
 rw [hbw.out] at HF hb Hj
 have hx0:Ext w (((w.alloc (.cells #[.int .i64 t.al,.int .i64 t.st,.slice C k c2] 39)).alloc (.cells #[.int .i64 s.al,.int .i64 s.st,.slice A n c,.int .i64 p.al,.slice B m d,.slice B' m' d',.int .i64 L] 98)).alloc (.cells #[.int .i64 a.al,.slice X k1 d1,.slice X' k1' d1'] 27)):=(((Ext.refl _).alloc _).alloc _).alloc _
 obtain⟨b1,b2,b3⟩:=zZ (Ext.refl (((w.alloc (.cells #[.int .i64 t.al,.int .i64 t.st,.slice C k c2] 39)).alloc (.cells #[.int .i64 s.al,.int .i64 s.st,.slice A n c,.int .i64 p.al,.slice B m d,.slice B' m' d',.int .i64 L] 98)).alloc (.cells #[.int .i64 a.al,.slice X k1 d1,.slice X' k1' d1'] 27)))
 clear h ht ha vt va
 cases hub:zbc s a p
 ·cases hbb:zbH [t] a
  ·have hfin:=hide (show J=(⟨#[]⟩,0) by rw [Hj.out,hub,hbb];rfl)
   rw [hub] at HU
   rw [hbb] at HF
   rw [hfin.out]
   clear Hj hfin hub hbb
   go_enter Tryz.func216,Tryz.ntmps216
   go_upto_region 1 with fail
   generalize ((w.alloc (.cells #[.int .i64 t.al,.int .i64 t.st,.slice C k c2] 39)).alloc (.cells #[.int .i64 s.al,.int .i64 s.st,.slice A n c,.int .i64 p.al,.slice B m d,.slice B' m' d',.int .i64 L] 98)).alloc (.cells #[.int .i64 a.al,.slice X k1 d1,.slice X' k1' d1'] 27)=w0 at *
   have CT:=b1.cells
   have CK:=b2.cells
   have CA:=b3.cells
   have hww:=Ext.refl w0
   go_wp2_with (first
    |(go_at_call 80;refine (HU.out _ hx0).mono ?_;rintro e w1 ⟨rfl,hx1⟩)
    |(go_at_call 222;refine (HF.out _ (hx0.trans hx1)).mono ?_;rintro e w2 ⟨rfl,hx2⟩;have hx12:=hx1.trans hx2))
   go_ret2
   exact⟨rfl,hx0.trans hx12⟩
  ·obtain⟨rw_,hrw⟩:∃ rw_,Hid (zaY bw L=rw_):=⟨_,rfl⟩
   have HR:=hide (fun W=>zaE (w:=W) (s:=bw) (a:=L) hb.out.1 (by omega))
   have hrs:=hide (show rw_.size≤9223372036854775807 by
    rw [← hrw.out]
    have h1:=zaU (zbf (zel hb.out.1 L))
    omega)
   rw [hrw.out] at HR Hj
   have HSr:=hide (fun W (hW:Ext w W)=>HS.out W hW rw_ hrs.out)
   obtain⟨sf,hsf⟩:∃ sf,Hid (zq s p L rw_=sf):=⟨_,rfl⟩
   rw [hsf.out] at HSr Hj
   rw [hub] at HU
   rw [hbb] at HF
   have hfin:=hide (show J=(rw_,if sf=true then -1 else 1) by rw [Hj.out,hub,hbb];rfl)
   rw [hfin.out]
   clear Hj hfin hub hbb
   cases sf
   all_goals
    go_enter Tryz.func216,Tryz.ntmps216
    go_upto_region 1 with fail
    generalize ((w.alloc (.cells #[.int .i64 t.al,.int .i64 t.st,.slice C k c2] 39)).alloc (.cells #[.int .i64 s.al,.int .i64 s.st,.slice A n c,.int .i64 p.al,.slice B m d,.slice B' m' d',.int .i64 L] 98)).alloc (.cells #[.int .i64 a.al,.slice X k1 d1,.slice X' k1' d1'] 27)=w0 at *
    have CT:=b1.cells
    have CK:=b2.cells
    have CA:=b3.cells
    have hww:=Ext.refl w0
    go_wp2_with (first
     |(go_at_call 80;refine (HU.out _ hx0).mono ?_;rintro e w1 ⟨rfl,hx1⟩)
     |(go_at_call 222;refine (HF.out _ (hx0.trans hx1)).mono ?_;rintro e w2 ⟨rfl,hx2⟩;have hx12:=hx1.trans hx2)
     |(go_at_call 81;refine (HR.out _).mono ?_;rintro e w3 ⟨rfl,hx3⟩;have hx13:=hx12.trans hx3)
     |(go_at_call 83;refine (HSr.out _ (hx0.trans hx13)).mono ?_;rintro e w4 ⟨rfl,hx4⟩;have hx14:=hx13.trans hx4))
    go_ret2
    exact⟨rfl,hx0.trans hx14⟩
 ·have HR:=hide (fun W=>zaE (w:=W) (s:=uw) (a:=L) hu.out.1 (by omega))
  rw [hub] at HU
  have hfin:=hide (show J=(zaY uw L,-1) by rw [Hj.out,hub];rfl)
  rw [hfin.out]
  clear Hj hfin hub
  go_enter Tryz.func216,Tryz.ntmps216
  go_upto_region 1 with fail
  generalize ((w.alloc (.cells #[.int .i64 t.al,.int .i64 t.st,.slice C k c2] 39)).alloc (.cells #[.int .i64 s.al,.int .i64 s.st,.slice A n c,.int .i64 p.al,.slice B m d,.slice B' m' d',.int .i64 L] 98)).alloc (.cells #[.int .i64 a.al,.slice X k1 d1,.slice X' k1' d1'] 27)=w0 at *
  have CT:=b1.cells
  have CK:=b2.cells
  have CA:=b3.cells
  have hww:=Ext.refl w0
  go_wp2_with (first
   |(go_at_call 80;refine (HU.out _ hx0).mono ?_;rintro e w1 ⟨rfl,hx1⟩)
   |(go_at_call 81;refine (HR.out _).mono ?_;rintro e w3 ⟨rfl,hx3⟩;have hx13:=hx1.trans hx3))
  go_ret2
  exact⟨rfl,hx0.trans hx13⟩
end
set_option maxHeartbeats 4000000
structure Vd where
 code:Int
 asm:Aut
 tr:ByteArray
 ro:Nat
def noA:Aut:=⟨0,[],[]⟩
noncomputable def runT (s t:Sys) (p:Aut) (L:Nat):Nat→Nat→Option (List ByteArray × List ByteArray)→Vd
 |0,k,_=>⟨2,noA,⟨#[]⟩,k⟩
 |_+1,k,none=>⟨2,noA,⟨#[]⟩,k⟩
 |f+1,k,some tab =>
  if (zdy s p t L (autT L (zq s p L) tab.1 tab.2)).2=0 then ⟨0,autT L (zq s p L) tab.1 tab.2,⟨#[]⟩,k+1⟩
  else if (zdy s p t L (autT L (zq s p L) tab.1 tab.2)).2=1 then ⟨1,noA,zat [s,t] p,k+1⟩
  else runT s t p L f (k+1) (zbv L (zq s p L) tab.1 tab.2 (zdy s p t L (autT L (zq s p L) tab.1 tab.2)).1)
def zcp (w:World) (v:Vd) (e:Ending) (w':World):Prop:=
 ∃ (A:Option Addr) (n c:Nat) (A':Option Addr) (n' c':Nat) (x:Int) (X:Option Addr) (k1 d1:Nat) (X':Option Addr) (k1' d1':Nat),
  e=.returned (.tuple #[.agg #[.int .i64 v.code,.int .i64 v.asm.al,.slice A n c,.slice A' n' c',.string v.tr,.int .i64 v.ro],.agg #[.int .i64 x,.slice X k1 d1,.slice X' k1' d1']])∧zK w' w.heap.size A n c A' n' c' v.asm∧Ext w w'
def zcX (L:Nat) (f:ByteArray→Bool) (o:Option (List ByteArray × List ByteArray)):Prop:=∀ rs cs,o=some (rs,cs)→TabI L f rs cs∧zaW L f rs cs=none
theorem zcX.new (L:Nat) (f:ByteArray→Bool):zcX L f ((zap L f [⟨#[]⟩] 11 [⟨#[]⟩]).map fun r=>(r,[⟨#[]⟩])):=by
 intro rs cs h
 obtain⟨r,hr,e⟩:=Option.map_eq_some_iff.1 h
 obtain⟨rfl,rfl⟩:=Prod.mk.inj e
 obtain⟨h1,h2,-⟩:=zfv 11 _ _ (TabI.first L f) (by decide) hr
 exact⟨h1,h2⟩
theorem zcX.learn {L:Nat} {f:ByteArray→Bool} {rows cols:List ByteArray}(h:TabI L f rows cols) (x:ByteArray):zcX L f (zbv L f rows cols x):=by
 intro rs cs hl
 unfold zbv at hl
 split at hl
 ·cases hl
 ·rename_i col hc
  split at hl
  ·rename_i ha
   obtain⟨r,hr,e⟩:=Option.map_eq_some_iff.1 hl
   obtain⟨rfl,rfl⟩:=Prod.mk.inj e
   have hI:=h.addC ha
   obtain⟨h1,h2,-⟩:=zfv _ _ _ hI (by have:=h.r12;omega) hr
   exact⟨h1,h2⟩
  ·cases hl
theorem judgeT_size {s:Sys} {p:Aut} {t:Sys} {L:Nat} {a:Aut}(hs:zj s=true)(hp:zg p=true)(ht:zj t=true)(ha:zg a=true):(zdy s p t L a).1.size≤50000:=by
 have h1:=zdT hs ha hp
 have h2:=zex (ss:=[t]) (p:=a) (by unfold zv;simp [ht]) ha
 unfold zdy
 split
 ·exact zaU (zbf (zel h1.1 L))
 ·split
  ·exact zaU (zbf (zel h2.1 L))
  ·exact Nat.zero_le _
def TabM (w0 W:World) (g:Nat) (o:Option (List ByteArray × List ByteArray)):Prop:=
 ∃ (nr nc:Nat) (R:Option Addr) (cr:Nat) (C:Option Addr) (cc:Nat),Blk W g 103 #[.slice R nr cr,.slice C nc cc]∧nr≤cr∧nc≤cc ∧
  ∀ rs cs,o=some (rs,cs)→W.ownsRow w0.heap.size 9 1 (.slice R nr cr) nr (strs rs)∧W.ownsRow w0.heap.size 9 1 (.slice C nc cc) nc (strs cs)
theorem TabM.far {w0 W W':World} {g G:Nat} {o:Option (List ByteArray × List ByteArray)} {cs:Array Value} {t:TypeId}(h:TabM w0 W g o)(hB:Blk W G t cs)(hf:Frm (fun k=>k=G) W W')(hg:g≠G)(ht:9≠t):TabM w0 W' g o:=by
 obtain⟨nr,nc,R,cr,C,cc,hb,h1,h2,h3⟩:=h
 exact⟨nr,nc,R,cr,C,cc,hb.frm hf hg,h1,h2,fun rs cs e=>⟨ze (h3 rs cs e).1 hf (fun b hv e'=>zo (h3 rs cs e).1 hB ht hv e'),ze (h3 rs cs e).2 hf (fun b hv e'=>zo (h3 rs cs e).2 hB ht hv e')⟩⟩
theorem zbM.fill {w w0 W:World} {o:Option (List ByteArray × List ByteArray)} {e:Ending}(h:zbM w o e W)(hw:w0.heap.size≤w.heap.size) :
  Ext w W∧∃ (nr nc:Nat) (R:Option Addr) (cr:Nat) (C:Option Addr) (cc:Nat),e=.returned (.tuple #[.agg #[.slice R nr cr,.slice C nc cc],.bool o.isSome])∧nr≤cr∧nc≤cc ∧
   ∀ rs cs,o=some (rs,cs)→W.ownsRow w0.heap.size 9 1 (.slice R nr cr) nr (strs rs)∧W.ownsRow w0.heap.size 9 1 (.slice C nc cc) nc (strs cs):=by
 obtain⟨hx,⟨rfl,rfl⟩|⟨rs,cs,nr,nc,R,cr,C,cc,rfl,rfl,h1,h2⟩⟩:=h
 ·exact⟨hx,0,0,none,0,none,0,rfl,Nat.le_refl _,Nat.le_refl _,fun _ _ e=>by cases e⟩
 ·refine⟨hx,nr,nc,R,cr,C,cc,rfl,zfl h1,zfl h2,fun rs' cs' e=>?_⟩
  obtain⟨rfl,rfl⟩:=Prod.mk.inj (Option.some.inj e)
  exact⟨zn h1 hw,zn h2 hw⟩
set_option maxHeartbeats 4000000
theorem sl_pair {w:World} {g lo hi n c lo2 hi2 k c2:Nat} {A C:Option Addr} {s t:Sys}(hb:Blk w g 39 #[.int .i64 s.al,.int .i64 s.st,.slice A n c,.int .i64 t.al,.int .i64 t.st,.slice C k c2])(h:zQ w lo hi A n s)(h':zQ w lo2 hi2 C k t):∃ lo hi,SLAt w lo hi (some ⟨g,0,none⟩) 2 [s,t]:=by
 refine⟨0,hi+hi2+g+1,rfl,[.int .i64 s.al,.int .i64 s.st,.slice A n c,.int .i64 t.al,.int .i64 t.st,.slice C k c2],⟨rfl,by omega,fun _=>⟨_,rfl,Nat.zero_le _,by dsimp only;omega,fun j u hu=>?_⟩⟩,fun j u hu=>?_⟩
 ·rw [zO,Nat.zero_add,hb.cell]
  simpa using hu
 ·match j with
  |0 =>
   simp at hu;subst hu
   exact⟨A,n,c,rfl,rfl,rfl,h.1,h.2.more (Nat.zero_le _) (by omega)⟩
  |1 =>
   simp at hu;subst hu
   exact⟨C,k,c2,rfl,rfl,rfl,h'.1,h'.2.more (Nat.zero_le _) (by omega)⟩
  |j+2=>simp at hu
theorem zcp.drew {w W:World} {v:Vd} {e:Ending}(h:zcp w v e W):zcp w v e W.drew:=by
 obtain⟨A,n,c,A',n',c',x,X,k1,d1,X',k1',d1',he,ho,hx⟩:=h
 have hd:Ext W W.drew:=(Ext.refl W).drew
 exact⟨A,n,c,A',n',c',x,X,k1,d1,X',k1',d1',he,ho.ext hd,hx.trans hd⟩
theorem zcp.cast {w W:World} {v u:Vd} {e:Ending}(hu:u=v)(h:zcp w v e W):zcp w u e W:=hu ▸ h
def roAt (W:World) (g:Nat):Nat:=match W.cell? ⟨g,5,none⟩ with|some (.int _ z)=>z.toNat|_=>0
theorem roAt_blk {W:World} {g j:Nat} {t:TypeId} {u0 u1 u2 u3 u4:Value}(h:Blk W g t #[u0,u1,u2,u3,u4,.int .i64 j]):roAt W g=j:=by
 unfold roAt
 rw [h.cell 5]
 exact Int.toNat_natCast j
theorem runT_end {s t:Sys} {p:Aut} {L K j:Nat} {o:Option (List ByteArray × List ByteArray)}(h:¬ (o.isSome=true∧j<K)):runT s t p L (K - j) j o=⟨2,noA,⟨#[]⟩,j⟩:=by
 cases hk:K - j with
 |zero=>rfl
 |succ f =>
  cases o with
  |none=>rfl
  |some tab=>exact absurd ⟨rfl,by omega⟩ h
theorem zdP (W:World) (Z:Nat) (u0 u1 u2 u3 u4 u5:Value):Frm (fun k=>k=Z) W ((((((W.setCell ⟨Z,0,none⟩ u0).setCell ⟨Z,1,none⟩ u1).setCell ⟨Z,2,none⟩ u2).setCell ⟨Z,3,none⟩ u3).setCell ⟨Z,4,none⟩ u4).setCell ⟨Z,5,none⟩ u5):=
 (((((Frm.setCell W _ 0 _).trans (Frm.setCell _ _ 1 _)).trans (Frm.setCell _ _ 2 _)).trans (Frm.setCell _ _ 3 _)).trans (Frm.setCell _ _ 4 _)).trans (Frm.setCell _ _ 5 _)
theorem Frm.drew {S:Nat→Prop} {a w:World}(h:Frm S a w):Frm S a w.drew:=⟨h.os,h.tape,h.output,h.size,h.block⟩
theorem zfo {w W:World} {Z n c n' c' k1 d1 k1' d1':Nat} {A A' X X':Option Addr} {v:Vd} {x:Int} {vs us:Array Value}(hx:Ext w W)(hv:Blk W Z 109 vs)(hu:Blk W (Z+1) 27 us)(h6:vs.size=6)(h3:us.size=3)(hZ:w.heap.size≤Z)(ho:zK W w.heap.size A n c A' n' c' v.asm) :
  Hid (zcp w v (.returned (.tuple #[.agg #[.int .i64 v.code,.int .i64 v.asm.al,.slice A n c,.slice A' n' c',.string v.tr,.int .i64 v.ro],.agg #[.int .i64 x,.slice X k1 d1,.slice X' k1' d1']]))
   (((((((((W.setCell ⟨Z,0,none⟩ (.int .i64 v.code)).setCell ⟨Z,1,none⟩ (.int .i64 v.asm.al)).setCell ⟨Z,2,none⟩ (.slice A n c)).setCell ⟨Z,3,none⟩ (.slice A' n' c')).setCell ⟨Z,4,none⟩ (.string v.tr)).setCell ⟨Z,5,none⟩ (.int .i64 v.ro)).setCell ⟨Z+1,0,none⟩ (.int .i64 x)).setCell ⟨Z+1,1,none⟩ (.slice X k1 d1)).setCell ⟨Z+1,2,none⟩ (.slice X' k1' d1'))) ∧
  Blk (((((((((W.setCell ⟨Z,0,none⟩ (.int .i64 v.code)).setCell ⟨Z,1,none⟩ (.int .i64 v.asm.al)).setCell ⟨Z,2,none⟩ (.slice A n c)).setCell ⟨Z,3,none⟩ (.slice A' n' c')).setCell ⟨Z,4,none⟩ (.string v.tr)).setCell ⟨Z,5,none⟩ (.int .i64 v.ro)).setCell ⟨Z+1,0,none⟩ (.int .i64 x)).setCell ⟨Z+1,1,none⟩ (.slice X k1 d1)).setCell ⟨Z+1,2,none⟩ (.slice X' k1' d1')) Z 109 #[.int .i64 v.code,.int .i64 v.asm.al,.slice A n c,.slice A' n' c',.string v.tr,.int .i64 v.ro] ∧
  Blk (((((((((W.setCell ⟨Z,0,none⟩ (.int .i64 v.code)).setCell ⟨Z,1,none⟩ (.int .i64 v.asm.al)).setCell ⟨Z,2,none⟩ (.slice A n c)).setCell ⟨Z,3,none⟩ (.slice A' n' c')).setCell ⟨Z,4,none⟩ (.string v.tr)).setCell ⟨Z,5,none⟩ (.int .i64 v.ro)).setCell ⟨Z+1,0,none⟩ (.int .i64 x)).setCell ⟨Z+1,1,none⟩ (.slice X k1 d1)).setCell ⟨Z+1,2,none⟩ (.slice X' k1' d1')) (Z+1) 27 #[.int .i64 x,.slice X k1 d1,.slice X' k1' d1']:=by
 obtain⟨lv⟩:=vs
 match lv,h6 with
 |[a0,a1,a2,a3,a4,a5],_ =>
 have hf1:Frm (fun k=>k=Z) W ((((((W.setCell ⟨Z,0,none⟩ (.int .i64 v.code)).setCell ⟨Z,1,none⟩ (.int .i64 v.asm.al)).setCell ⟨Z,2,none⟩ (.slice A n c)).setCell ⟨Z,3,none⟩ (.slice A' n' c')).setCell ⟨Z,4,none⟩ (.string v.tr)).setCell ⟨Z,5,none⟩ (.int .i64 v.ro)):=
  (((((Frm.setCell W _ 0 _).trans (Frm.setCell _ _ 1 _)).trans (Frm.setCell _ _ 2 _)).trans (Frm.setCell _ _ 3 _)).trans (Frm.setCell _ _ 4 _)).trans (Frm.setCell _ _ 5 _)
 have hv1:Blk ((((((W.setCell ⟨Z,0,none⟩ (.int .i64 v.code)).setCell ⟨Z,1,none⟩ (.int .i64 v.asm.al)).setCell ⟨Z,2,none⟩ (.slice A n c)).setCell ⟨Z,3,none⟩ (.slice A' n' c')).setCell ⟨Z,4,none⟩ (.string v.tr)).setCell ⟨Z,5,none⟩ (.int .i64 v.ro)) Z 109 #[.int .i64 v.code,.int .i64 v.asm.al,.slice A n c,.slice A' n' c',.string v.tr,.int .i64 v.ro]:=by
  simpa using (((((hv.set_ 0 (.int .i64 v.code)).set_ 1 (.int .i64 v.asm.al)).set_ 2 (.slice A n c)).set_ 3 (.slice A' n' c')).set_ 4 (.string v.tr)).set_ 5 (.int .i64 v.ro)
 have ho1:=ho.farT hv hf1 (by decide)
 have hu1:=hu.frm hf1 (by omega)
 have hx1:Ext w ((((((W.setCell ⟨Z,0,none⟩ (.int .i64 v.code)).setCell ⟨Z,1,none⟩ (.int .i64 v.asm.al)).setCell ⟨Z,2,none⟩ (.slice A n c)).setCell ⟨Z,3,none⟩ (.slice A' n' c')).setCell ⟨Z,4,none⟩ (.string v.tr)).setCell ⟨Z,5,none⟩ (.int .i64 v.ro)):=hx.frm hf1 (fun k hk e=>by omega)
 generalize (((((W.setCell ⟨Z,0,none⟩ (.int .i64 v.code)).setCell ⟨Z,1,none⟩ (.int .i64 v.asm.al)).setCell ⟨Z,2,none⟩ (.slice A n c)).setCell ⟨Z,3,none⟩ (.slice A' n' c')).setCell ⟨Z,4,none⟩ (.string v.tr)).setCell ⟨Z,5,none⟩ (.int .i64 v.ro)=W1 at *
 have hf2:=zaa W1 (Z+1) (.int .i64 x) (.slice X k1 d1) (.slice X' k1' d1')
 exact⟨hide ⟨A,n,c,A',n',c',x,X,k1,d1,X',k1',d1',rfl,ho1.farT hu1 hf2 (by decide),hx1.frm hf2 (fun k hk e=>by omega)⟩,hv1.frm hf2 (by omega),zah hu1 h3 _ _ _⟩
section
variable {w:World} {lo hi n c lo1 hi1 m d m' d' lo2 hi2 k c2:Nat} {A B B' C:Option Addr} {s t:Sys} {p:Aut}
theorem yH12a2 {P:Prop}(h:P:=by
 clear hflag hgo ho hon hne1 hne2 hd hb8 hb9' hxw
 go_wp2_with fail
 refine zaH (fun Y=>Frm (fun b=>b=Z) wr Y) [3] (OrdU.of [0,1,2,3]) (by kernel_rfl) (by kernel_rfl) (by kernel_rfl) (by kernel_rfl) (by kernel_rfl) (fun _ _ _ _ _ h=>h) hS0 ?_
 refine zby (v:=?_) rfl rfl rfl rfl (fun X hX=>?_) ?_
 rotate_left
 focus (go_simp<;>with_reducible rfl)
 refine pT ?_
 refine zby (v:=?_) rfl rfl rfl rfl (fun X hX=>?_) ?_
 rotate_left
 focus (go_simp<;>with_reducible rfl)
 refine pT ?_
 (refine zb rfl rfl rfl (fun K hK=>?_);go_simp)
 refine hK.out _ _ hf8.out.drew ?_
 refine pT ?_
 (refine za rfl rfl rfl rfl (fun K hK=>?_))
 go_simp
 refine hK.out _ _ ?_
 refine zd ?_
 go_wp2_with fail
 have cf2:=F2.out.cell
 have cf3:=F3.out.cell
 exact bodyPost_ret (v:=.tuple #[.agg #[.int .i64 2,.int .i64 0,.slice none 0 0,.slice none 0 0,.string ⟨#[]⟩,.int .i64 j],.agg #[.int .i64 x,.slice X k1 d1,.slice X' k1' d1']]) (by simp [results,Tryz.results195,go_sem,cf2,cf3]) rfl F1.out
 ):P:=h
set_option maxRecDepth 100000 in
theorem spec_l12Run {L K:Nat}(hs:zQ w lo hi A n s)(hp:zF w lo1 hi1 B m B' m' p)(ht:zQ w lo2 hi2 C k t)(hif:iface s p t=(L:Int))(hn:n≤1000000)(hhi:hi≤w.heap.size)(hK:K≤1000) :
  Calls Tryz.prog 195 #[.agg #[.int .i64 s.al,.int .i64 s.st,.slice A n c],.agg #[.int .i64 t.al,.int .i64 t.st,.slice C k c2],.agg #[.int .i64 p.al,.slice B m d,.slice B' m' d'],.int .i64 K] w
   (zcp w (runT s t p L K 0 ((zap L (zq s p L) [⟨#[]⟩] 11 [⟨#[]⟩]).map fun r=>(r,[⟨#[]⟩])))):=by
 obtain⟨vs,vp,vt⟩:=zef (show 0≤iface s p t by omega)
 have Hv:=hide (And.intro vs (And.intro vp vt))
 have HTask:=hide (fun W (hW:Ext w W)=>spec_TaskOf (c:=c) (d:=d) (d':=d') (c2:=c2) (hs.ext hW) (hp.ext hW) (ht.ext hW) hif hn (Nat.le_trans hhi hW.size))
 have HPv2:=hide (fun W (hW:Ext w W)=>show Calls Tryz.prog 155 #[.slice (some ⟨W.heap.size,0,none⟩) 2 2,.agg #[.int .i64 p.al,.slice B m d,.slice B' m' d']] (W.alloc (.cells #[.int .i64 s.al,.int .i64 s.st,.slice A n c,.int .i64 t.al,.int .i64 t.st,.slice C k c2] 39)) (fun e w'=>e=.returned (.tuple #[.string (zat [s,t] p),.bool (zbH [s,t] p)])∧Ext W w') by
  have f6:=(Ext.refl W).alloc (.cells #[.int .i64 s.al,.int .i64 s.st,.slice A n c,.int .i64 t.al,.int .i64 t.st,.slice C k c2] 39)
  obtain⟨l1,l2,hsl⟩:=sl_pair (Blk.new W 39 #[.int .i64 s.al,.int .i64 s.st,.slice A n c,.int .i64 t.al,.int .i64 t.st,.slice C k c2]) (hs.ext (hW.trans f6)) (ht.ext (hW.trans f6))
  exact (zaJ hsl (hp.ext (hW.trans f6))).mono (fun e w' h=>⟨h.1,f6.trans h.2⟩))
 have HSs:=hide (fun W (hW:Ext w W)=>hs.ext hW)
 have HSt:=hide (fun W (hW:Ext w W)=>ht.ext hW)
 obtain⟨fin,hfin⟩:∃ fin,Hid (runT s t p L K 0 ((zap L (zq s p L) [⟨#[]⟩] 11 [⟨#[]⟩]).map fun r=>(r,[⟨#[]⟩]))=fin):=⟨_,rfl⟩
 have htok:=hide (zcX.new L (zq s p L))
 rw [hfin.out]
 obtain⟨tab0,htab⟩:∃ tab0,Hid ((zap L (zq s p L) [⟨#[]⟩] 11 [⟨#[]⟩]).map (fun r=>(r,[(⟨#[]⟩:ByteArray)]))=tab0):=⟨_,rfl⟩
 rw [htab.out] at hfin htok
 clear hs hp ht hif vs vp vt
 have hx0:Ext w (((((w.alloc (.cells #[.int .i64 s.al,.int .i64 s.st,.slice A n c] 39)).alloc (.cells #[.int .i64 t.al,.int .i64 t.st,.slice C k c2] 39)).alloc (.cells #[.int .i64 p.al,.slice B m d,.slice B' m' d'] 27)).alloc (.cells #[.int .i64 0,.int .i64 0,.slice none 0 0,.slice none 0 0,.string ⟨#[]⟩,.int .i64 0] 109)).alloc (.cells #[.int .i64 0,.slice none 0 0,.slice none 0 0] 27)):=(((((Ext.refl _).alloc _).alloc _).alloc _).alloc _).alloc _
 obtain⟨b1,b2,b3⟩:=zZ (((Ext.refl _).alloc _).alloc _:Ext (((w.alloc (.cells #[.int .i64 s.al,.int .i64 s.st,.slice A n c] 39)).alloc (.cells #[.int .i64 t.al,.int .i64 t.st,.slice C k c2] 39)).alloc (.cells #[.int .i64 p.al,.slice B m d,.slice B' m' d'] 27)) (((((w.alloc (.cells #[.int .i64 s.al,.int .i64 s.st,.slice A n c] 39)).alloc (.cells #[.int .i64 t.al,.int .i64 t.st,.slice C k c2] 39)).alloc (.cells #[.int .i64 p.al,.slice B m d,.slice B' m' d'] 27)).alloc (.cells #[.int .i64 0,.int .i64 0,.slice none 0 0,.slice none 0 0,.string ⟨#[]⟩,.int .i64 0] 109)).alloc (.cells #[.int .i64 0,.slice none 0 0,.slice none 0 0] 27)))
 obtain⟨b8,b9⟩:=zR (Ext.refl (((((w.alloc (.cells #[.int .i64 s.al,.int .i64 s.st,.slice A n c] 39)).alloc (.cells #[.int .i64 t.al,.int .i64 t.st,.slice C k c2] 39)).alloc (.cells #[.int .i64 p.al,.slice B m d,.slice B' m' d'] 27)).alloc (.cells #[.int .i64 0,.int .i64 0,.slice none 0 0,.slice none 0 0,.string ⟨#[]⟩,.int .i64 0] 109)).alloc (.cells #[.int .i64 0,.slice none 0 0,.slice none 0 0] 27)))
 simp only [World.size_alloc] at b8 b9
 go_enter Tryz.func195,Tryz.ntmps195
 go_upto_region 1 with fail
 generalize ((((w.alloc (.cells #[.int .i64 s.al,.int .i64 s.st,.slice A n c] 39)).alloc (.cells #[.int .i64 t.al,.int .i64 t.st,.slice C k c2] 39)).alloc (.cells #[.int .i64 p.al,.slice B m d,.slice B' m' d'] 27)).alloc (.cells #[.int .i64 0,.int .i64 0,.slice none 0 0,.slice none 0 0,.string ⟨#[]⟩,.int .i64 0] 109)).alloc (.cells #[.int .i64 0,.slice none 0 0,.slice none 0 0] 27)=w0 at *
 have CS:=b1.cells
 have CT:=b2.cells
 have CP:=b3.cells
 have hb9:=b9.lt
 have hZw:w.heap.size≤w.heap.size+1+1+1:=by omega
 generalize w.heap.size+1+1+1=Z at *
 have hww:=Ext.refl w0
 go_upto_region 2 with (first
  |(go_at_call 215;refine (HTask.out _ hx0).mono ?_;rintro e w1 ⟨A,n,c,B,m,d,B',m',d',rfl,htch,hx01⟩))
 have hx12:Ext w1 ((w1.alloc (.cells #[.int .i64 s.al,.int .i64 s.st,.slice A n c,.int .i64 p.al,.slice B m d,.slice B' m' d',.int .i64 L] 98)).alloc (.cells #[.bool false,.int .i64 0,.slice none 0 0,.slice none 0 0,.int .i64 s.al,.int .i64 s.st,.slice A n c,.int .i64 p.al,.slice B m d,.slice B' m' d',.int .i64 L] 100)):=((Ext.refl _).alloc _).alloc _
 obtain⟨bK,bT⟩:=zR (Ext.refl ((w1.alloc (.cells #[.int .i64 s.al,.int .i64 s.st,.slice A n c,.int .i64 p.al,.slice B m d,.slice B' m' d',.int .i64 L] 98)).alloc (.cells #[.bool false,.int .i64 0,.slice none 0 0,.slice none 0 0,.int .i64 s.al,.int .i64 s.st,.slice A n c,.int .i64 p.al,.slice B m d,.slice B' m' d',.int .i64 L] 100)))
 have cK:=(Blk.new w1 98 #[.int .i64 s.al,.int .i64 s.st,.slice A n c,.int .i64 p.al,.slice B m d,.slice B' m' d',.int .i64 L]).cell
 go_upto_region 5 with fail
 obtain⟨G10,hG10⟩:∃ G10,Hid (w1.heap.size=G10):=⟨_,rfl⟩
 generalize (w1.alloc (.cells #[.int .i64 s.al,.int .i64 s.st,.slice A n c,.int .i64 p.al,.slice B m d,.slice B' m' d',.int .i64 L] 98)).alloc (.cells #[.bool false,.int .i64 0,.slice none 0 0,.slice none 0 0,.int .i64 s.al,.int .i64 s.st,.slice A n c,.int .i64 p.al,.slice B m d,.slice B' m' d',.int .i64 L] 100)=w2 at *
 rw [hG10.out] at bK bT ⊢
 clear cK
 have htch2:=htch.ext hx12
 have hx02:=hx01.trans hx12
 have hbT:=bT.lt
 have HNT:=hide (fun W (hW:Ext w2 W)=>zeo (c:=c) (d:=d) (d':=d') (htch2.ext hW))
 rw [htab.out] at HNT
 have HTA:=hide (fun (R:Option Addr) (nr cr:Nat) (C:Option Addr) (nc cc:Nat) (rows cols:List ByteArray) W (hW:Ext w2 W) hT hI hcr hcc hcl=>zbk (c:=c) (d:=d) (d':=d') (nr:=nr) (nc:=nc) (R:=R) (C:=C) (cr:=cr) (cc:=cc) (rows:=rows) (cols:=cols) (htch2.ext hW) hT hI hcr hcc hcl)
 have HLS:=hide (fun (R:Option Addr) (nr cr:Nat) (C:Option Addr) (nc cc:Nat) (rows cols:List ByteArray) (x:ByteArray) W (hW:Ext w2 W) hT hI hcr hcc hcl hx=>zdA (c:=c) (d:=d) (d':=d') (nr:=nr) (nc:=nc) (R:=R) (C:=C) (cr:=cr) (cc:=cc) (rows:=rows) (cols:=cols) (x:=x) (htch2.ext hW) hT hI hcr hcc hcl hx)
 have CTc:=bT.cells
 have CTk:=bK.cells
 have CS2:∀ W,Ext w2 W→∀ q,W.cell? ⟨w.heap.size,q,none⟩=_:=fun W hW=>CS W (hx02.trans hW)
 have CT2:∀ W,Ext w2 W→∀ q,W.cell? ⟨w.heap.size+1,q,none⟩=#[Value.int .i64 t.al,.int .i64 t.st,.slice _ k c2][q]?:=fun W hW=>CT W (hx02.trans hW)
 have CP2:∀ W,Ext w2 W→∀ q,W.cell? ⟨w.heap.size+1+1,q,none⟩=_:=fun W hW=>CP W (hx02.trans hW)
 have hww2:=Ext.refl w2
 clear hww CS CT CP
 go_upto_region 6 with (first
  |(go_at_call 78;refine (HNT.out _ hww2).mono ?_;intro e w3 hret;obtain⟨hx3,nr,nc,R,cr,C,cc,rfl,hcr,hcc,hT3⟩:=hret.fill (w0:=w2) (Nat.le_refl _);clear hret))
 have hx36:Ext w3 (((w3.alloc (.cells #[.slice R nr cr,.slice C nc cc] 103)).alloc (.cells #[.int .i64 2,.int .i64 0,.slice none 0 0,.slice none 0 0,.string ⟨#[]⟩,.int .i64 0] 109)).alloc (.cells #[.int .i64 0,.slice none 0 0,.slice none 0 0] 27)):=(((Ext.refl _).alloc _).alloc _).alloc _
 obtain⟨c13,c15,c16⟩:=zZ (Ext.refl (((w3.alloc (.cells #[.slice R nr cr,.slice C nc cc] 103)).alloc (.cells #[.int .i64 2,.int .i64 0,.slice none 0 0,.slice none 0 0,.string ⟨#[]⟩,.int .i64 0] 109)).alloc (.cells #[.int .i64 0,.slice none 0 0,.slice none 0 0] 27)))
 go_wp2_with fail
 obtain⟨G,hG⟩:∃ G,Hid (w3.heap.size=G):=⟨_,rfl⟩
 have hGw:w2.heap.size≤G:=by rw [← hG.out];exact hx3.size
 generalize ((w3.alloc (.cells #[.slice R nr cr,.slice C nc cc] 103)).alloc (.cells #[.int .i64 2,.int .i64 0,.slice none 0 0,.slice none 0 0,.string ⟨#[]⟩,.int .i64 0] 109)).alloc (.cells #[.int .i64 0,.slice none 0 0,.slice none 0 0] 27)=w6 at *
 rw [hG.out] at c13 c15 c16 ⊢
 have hx26:=hx3.trans hx36
 have hTM:TabM w2 w6 G tab0:=⟨nr,nc,R,cr,C,cc,c13,hcr,hcc,fun rs cs e=>⟨zf (hT3 rs cs e).1 hx36,zf (hT3 rs cs e).2 hx36⟩⟩
 clear hT3 c13 hx3 hx36
 go_loopw [14] (fun fv wr=>∃ (o:Option (List ByteArray × List ByteArray)) (j:Nat) (x:Int) (X:Option Addr) (k1 d1:Nat) (X':Option Addr) (k1' d1':Nat),fv=.bool o.isSome∧j≤K∧Hid (zcX L (zq s p L) o)∧Hid (runT s t p L (K - j) j o=fin)∧TabM w2 wr G o∧Blk wr (G+1) 109 #[.int .i64 2,.int .i64 0,.slice none 0 0,.slice none 0 0,.string ⟨#[]⟩,.int .i64 j]∧Blk wr (G+1+1) 27 #[.int .i64 x,.slice X k1 d1,.slice X' k1' d1']∧Ext w2 wr) (fun _ wr=>K - roAt wr (G+1))
 case atStart=>exact⟨tab0,0,0,none,0,0,none,0,0,rfl,Nat.zero_le _,htok,hfin,hTM,c15,c16,hx26⟩
 case round =>
  clear hTM c15 c16 hx26
  obtain⟨o,j,x,X,k1,d1,X',k1',d1',rfl,hj,hok,hrun,hTM,c15,c16,hxr⟩:=hrel
  have k15:=c15.cell
  have k16:=c16.cell
  by_cases hgo:o.isSome=true∧j<K
  ·obtain⟨⟨⟨rs,cs⟩,rfl⟩,hlt⟩:(∃ q,o=some q)∧j<K:=⟨Option.isSome_iff_exists.1 hgo.1,hgo.2⟩
   clear hgo
   obtain⟨hI,hcl⟩:=hok.out rs cs rfl
   have hlt':(j:Int)<(K:Int):=by omega
   have f15:=c15.frozen
   have c15a:Blk (wr.setCell ⟨G+1,5,none⟩ (.int .i64 ((j:Int)+1))) (G+1) 109 #[.int .i64 2,.int .i64 0,.slice none 0 0,.slice none 0 0,.string ⟨#[]⟩,.int .i64 ((j:Int)+1)]:=by
    simpa using c15.set_ 5 (.int .i64 ((j:Int)+1))
   have hfA:Frm (fun b=>b=G+1) wr (wr.setCell ⟨G+1,5,none⟩ (.int .i64 ((j:Int)+1))):=Frm.setCell wr _ 5 _
   have c16a:=c16.frm hfA (by omega)
   have hTMa:=hTM.far c15 hfA (by omega) (by decide)
   have hxa:=hxr.setCell (p:=⟨G+1,5,none⟩) (by dsimp only;omega) (.int .i64 ((j:Int)+1))
   go_upto_region 10 with fail
   have hmes:=hide (roAt_blk c15)
   clear k15 k16 f15 hTM c15 c16 hxr hfA
   generalize wr.setCell ⟨G+1,5,none⟩ (.int .i64 ((j:Int)+1))=wA at *
   obtain⟨nr,nc,R,cr,C,cc,c13,hcr,hcc,hTT⟩:=hTMa
   obtain⟨oR,oC⟩:=hTT rs cs rfl
   have HTat:=hide (show TabAt wA R nr C nc rs cs from ⟨_,_,_,_,Reads.of_own oR,Reads.of_own oC⟩)
   have k13:=c13.cell
   have cTc:=CTc wA hxa
   have hI':=hide hI
   have hcl':=hide hcl
   have hva:=hide (zcr hI hcl htch.lt)
   clear hI hcl hTT
   go_upto_region 11 with (first
    |(go_at_call 79;refine (HTA.out _ _ _ _ _ _ rs cs _ hxa HTat.out hI'.out hcr hcc hcl'.out).mono ?_;rintro e wB ⟨Y,q1,e1,Y',q1',e1',rfl,hownA,hxB⟩))
   obtain⟨aut,haut⟩:∃ aut,Hid (autT L (zq s p L) rs cs=aut):=⟨_,rfl⟩
   rw [haut.out] at hownA hva ⊢
   have hxC:=(Ext.refl wB).alloc (.cells #[.int .i64 aut.al,.slice Y q1 e1,.slice Y' q1' e1'] 27)
   have b17:=Blk.new wB 27 #[.int .i64 aut.al,.slice Y q1 e1,.slice Y' q1' e1']
   have hownC:=hownA.ext hxC
   generalize wB.alloc (.cells #[.int .i64 aut.al,.slice Y q1 e1,.slice Y' q1' e1'] 27)=wC at *
   have hxBC:=hxB.trans hxC
   have c16C:=c16a.ext hxBC
   have c15C:=c15a.ext hxBC
   have c13C:=c13.ext hxBC
   have oRC:=zf oR hxBC
   have oCC:=zf oC hxBC
   have k16:=c16C.cell
   have f16:=c16C.frozen
   have k17:=b17.cell
   have hfD:=zaa wC (G+1+1) (.int .i64 aut.al) (.slice Y q1 e1) (.slice Y' q1' e1')
   have c16D:=zah c16C rfl (.int .i64 aut.al) (.slice Y q1 e1) (.slice Y' q1' e1')
   have c15D:=c15C.frm hfD (by omega)
   have c13D:=c13C.frm hfD (by omega)
   have oRD:=ze oRC hfD (fun b hv e=>zo oRC c16C (by decide) hv e)
   have oCD:=ze oCC hfD (fun b hv e=>zo oCC c16C (by decide) hv e)
   have hownD:=hownC.farT c16C hfD (by decide)
   have hxD:=((hxa.trans hxBC).frm hfD (fun k hk e=>by omega))
   have hsB:=hide (hxa.trans hxB).size
   have hsA:=hide hxa.size
   clear c16C c15C c13C oRC oCC hfD hownC hownA b17 c16a c15a c13 oR oC k13 cTc HTat
   go_upto_region 12 with fail
   generalize ((wC.setCell ⟨G+1+1,0,none⟩ (.int .i64 aut.al)).setCell ⟨G+1+1,1,none⟩ (.slice Y q1 e1)).setCell ⟨G+1+1,2,none⟩ (.slice Y' q1' e1')=wD at *
   clear k16 f16 k17
   have HJ:=hide (zgP (c:=c) (d:=d) (d':=d') (c2:=c2) (d1:=e1) (d1':=e1') (htch2.ext hxD) (HSt.out wD (hx0.trans (hx02.trans hxD))) hownD.reads Hv.out.2.2 hva.out)
   have hJs:=hide (judgeT_size (L:=L) Hv.out.1 Hv.out.2.1 Hv.out.2.2 hva.out)
   obtain⟨J,hJ⟩:∃ J,Hid (zdy s p t L aut=J):=⟨_,rfl⟩
   rw [hJ.out] at HJ hJs
   have k16:=c16D.cell
   have cTk:=CTk wD hxD
   have cTt:=CT2 wD hxD
   go_upto_region 13 with (first
    |(go_at_call 216;refine HJ.out.mono ?_;rintro e wE ⟨rfl,hxE⟩))
   have hxDE:=hxD.trans hxE
   have c16E:=c16D.ext hxE
   have c15E:=c15D.ext hxE
   have c13E:=c13D.ext hxE
   have oRE:=zf oRD hxE
   have oCE:=zf oCD hxE
   have hownE:=hownD.ext hxE
   clear k16 cTk cTt c16D c15D c13D oRD oCD hownD HJ
   have hrunJ:=hide (show (if J.2=0 then (⟨0,aut,⟨#[]⟩,j+1⟩:Vd) else if J.2=1 then ⟨1,noA,zat [s,t] p,j+1⟩ else runT s t p L (K - (j+1)) (j+1) (zbv L (zq s p L) rs cs J.1))=fin by
    rw [← hrun.out,show K - j=(K - (j+1))+1 by omega]
    show _=runT s t p L ((K - (j+1))+1) j (some (rs,cs))
    rw [runT,haut.out,hJ.out])
   by_cases hJ0:J.2=0
   ·have hfn:=hide (show fin=⟨0,aut,⟨#[]⟩,j+1⟩ by rw [← hrunJ.out,if_pos hJ0])
    have k15:=c15E.cell
    have f15:=c15E.frozen
    have c15F:Blk (wE.setCell ⟨G+1,0,none⟩ (.int .i64 0)) (G+1) 109 #[.int .i64 0,.int .i64 0,.slice none 0 0,.slice none 0 0,.string ⟨#[]⟩,.int .i64 ((j:Int)+1)]:=by
     simpa using c15E.set_ 0 (.int .i64 0)
    have hfF:Frm (fun b=>b=G+1) wE (wE.setCell ⟨G+1,0,none⟩ (.int .i64 0)):=Frm.setCell wE _ 0 _
    have c16F:=c16E.frm hfF (by omega)
    have hownF:=hownE.farT c15E hfF (by decide)
    have hxF:=hxDE.setCell (p:=⟨G+1,0,none⟩) (by dsimp only;omega) (.int .i64 0)
    clear hrunJ c13E c16E oRE oCE hfF hownE c15E
    go_upto_region 16 with fail
    generalize wE.setCell ⟨G+1,0,none⟩ (.int .i64 0)=wF at *
    clear k15 f15 hJ0
    have HCp:=hide (zcS (c:=e1) (c':=e1') hownF.reads (zdY hva.out))
    have k16:=c16F.cell
    go_upto_region 17 with (first
     |(go_at_call 90;refine HCp.out.mono ?_;rintro e wG ⟨Z1,z1,y1,Z2,z2,y2,rfl,hownG,hxG⟩;have k15:=(c15F.ext hxG).cell;have f15:=(c15F.ext hxG).frozen))
    have c15G:=c15F.ext hxG
    have c16G:=c16F.ext hxG
    have hfH:Frm (fun b=>b=G+1) wG (((wG.setCell ⟨G+1,1,none⟩ (.int .i64 aut.al)).setCell ⟨G+1,2,none⟩ (.slice Z1 z1 y1)).setCell ⟨G+1,3,none⟩ (.slice Z2 z2 y2)):=((Frm.setCell wG _ 1 _).trans (Frm.setCell _ _ 2 _)).trans (Frm.setCell _ _ 3 _)
    have c15H:Blk (((wG.setCell ⟨G+1,1,none⟩ (.int .i64 aut.al)).setCell ⟨G+1,2,none⟩ (.slice Z1 z1 y1)).setCell ⟨G+1,3,none⟩ (.slice Z2 z2 y2)) (G+1) 109 #[.int .i64 0,.int .i64 aut.al,.slice Z1 z1 y1,.slice Z2 z2 y2,.string ⟨#[]⟩,.int .i64 ((j:Int)+1)]:=by
     simpa using ((c15G.set_ 1 (.int .i64 aut.al)).set_ 2 (.slice Z1 z1 y1)).set_ 3 (.slice Z2 z2 y2)
    have c16H:=c16G.frm hfH (by omega)
    have hownH:=(hownG.farT c15G hfH (by decide)).less (show w.heap.size≤wF.heap.size by have:=hxF.size;have:=hx02.size;have:=hx0.size;omega)
    have hxH:=(hxF.trans hxG).frm hfH (fun k hk e=>by omega)
    clear k15 f15 k16 c15F c16F c15G c16G hfH hownF hownG HCp
    generalize ((wG.setCell ⟨G+1,1,none⟩ (.int .i64 aut.al)).setCell ⟨G+1,2,none⟩ (.slice Z1 z1 y1)).setCell ⟨G+1,3,none⟩ (.slice Z2 z2 y2)=wH at *
    have hxw:Ext w wH:=hx0.trans (hx02.trans hxH)
    have hb8:=b8.ext (hx02.trans hxH)
    have hb9':=b9.ext (hx02.trans hxH)
    obtain⟨f1,f2,f3⟩:=zfo (v:=⟨0,aut,⟨#[]⟩,j+1⟩) (x:=aut.al) (X:=Y) (k1:=q1) (d1:=e1) (X':=Y') (k1':=q1') (d1':=e1') hxw hb8 hb9' rfl rfl (by omega) hownH
    have F1:=hide (zcp.cast hfn.out f1.out.drew)
    clear f1
    simp only [Int.natCast_add,Int.cast_ofNat_Int] at F1 f2 f3
    have F2:=hide f2
    have F3:=hide f3
    clear f2 f3
    have k8:=hb8.cell
    have z8:=hb8.frozen
    have k9:=hb9'.cell
    have z9:=hb9'.frozen
    have hne1:G+1≠Z:=by have:=hx02.size;omega
    have hne2:G+1+1≠Z:=by have:=hx02.size;omega
    have C15:∀ W,Frm (fun b=>b=Z) wH W→∀ q,W.cell? ⟨G+1,q,none⟩=#[Value.int .i64 0,.int .i64 aut.al,.slice Z1 z1 y1,.slice Z2 z2 y2,.string ⟨#[]⟩,.int .i64 ((j:Int)+1)][q]?:=fun W hW=>(c15H.frm hW hne1).cell
    have C16:∀ W,Frm (fun b=>b=Z) wH W→∀ q,W.cell? ⟨G+1+1,q,none⟩=#[Value.int .i64 aut.al,.slice Y q1 e1,.slice Y' q1' e1'][q]?:=fun W hW=>(c16H.frm hW hne2).cell
    have hS0:Frm (fun b=>b=Z) wH wH.drew:=⟨rfl,rfl,rfl,Nat.le_refl _,fun _ _ _=>rfl⟩
    have hf8:=hide (zdP wH Z (.int .i64 0) (.int .i64 aut.al) (.slice Z1 z1 y1) (.slice Z2 z2 y2) (.string ⟨#[]⟩) (.int .i64 ((j:Int)+1)))
    clear c15H c16H hownH hb8 hb9' hxw hne1 hne2
    go_wp2_with fail
    refine zaH (fun Y=>Frm (fun b=>b=Z) wH Y) [3] (OrdU.of [0,1,2,3]) (by kernel_rfl) (by kernel_rfl) (by kernel_rfl) (by kernel_rfl) (by kernel_rfl) (fun _ _ _ _ _ h=>h) hS0 ?_
    refine zby (v:=?_) rfl rfl rfl rfl (fun X hX=>?_) ?_
    rotate_left
    focus (go_simp<;>with_reducible rfl)
    refine pT ?_
    refine zby (v:=?_) rfl rfl rfl rfl (fun X hX=>?_) ?_
    rotate_left
    focus (go_simp<;>with_reducible rfl)
    refine pT ?_
    (refine zb rfl rfl rfl (fun K hK=>?_);go_simp)
    refine hK.out _ _ hf8.out.drew ?_
    refine pT ?_
    (refine za rfl rfl rfl rfl (fun K hK=>?_))
    go_simp
    refine hK.out _ _ ?_
    refine zd ?_
    go_wp2_with fail
    have cf2:=F2.out.cell
    have cf3:=F3.out.cell
    exact bodyPost_ret (v:=.tuple #[.agg #[.int .i64 0,.int .i64 aut.al,.slice Z1 z1 y1,.slice Z2 z2 y2,.string ⟨#[]⟩,.int .i64 ((j:Int)+1)],.agg #[.int .i64 aut.al,.slice Y q1 e1,.slice Y' q1' e1']]) (by simp [results,Tryz.results195,go_sem,cf2,cf3]) rfl F1.out
   ·by_cases hJ1:J.2=1
    ·have hfn:=hide (show fin=⟨1,noA,zat [s,t] p,j+1⟩ by rw [← hrunJ.out,if_neg hJ0,if_pos hJ1])
     have HP:=hide (HPv2.out wE (hx0.trans (hx02.trans hxDE)))
     have cS:=CS2 wE hxDE
     have cT:=CT2 wE hxDE
     have cP:∀ (v:Array Value) (q:Nat),(wE.alloc (.cells v 39)).cell? ⟨w.heap.size+1+1,q,none⟩=_:=fun v q=>CP2 _ (hxDE.trans ((Ext.refl wE).alloc _)) q
     clear hJ0 hrunJ c13E oRE oCE hownE
     go_upto_region 20 with (first
      |(go_at_call 155;refine HP.out.mono ?_;rintro e wF ⟨rfl,hxF⟩;clear cS cT cP))
     have c15F:=c15E.ext hxF
     have c16F:=c16E.ext hxF
     have hxDF:=hxDE.trans hxF
     have k15:=c15F.cell
     have f15:=c15F.frozen
     clear HP c15E c16E
     go_upto_region 22 with fail
     have hfH:Frm (fun b=>b=G+1) wF ((wF.setCell ⟨G+1,0,none⟩ (.int .i64 1)).setCell ⟨G+1,4,none⟩ (.string (zat [s,t] p))):=(Frm.setCell wF _ 0 _).trans (Frm.setCell _ _ 4 _)
     have c15H:Blk ((wF.setCell ⟨G+1,0,none⟩ (.int .i64 1)).setCell ⟨G+1,4,none⟩ (.string (zat [s,t] p))) (G+1) 109 #[.int .i64 1,.int .i64 0,.slice none 0 0,.slice none 0 0,.string (zat [s,t] p),.int .i64 ((j:Int)+1)]:=by
      simpa using (c15F.set_ 0 (.int .i64 1)).set_ 4 (.string (zat [s,t] p))
     have c16H:=c16F.frm hfH (by omega)
     have hxH:=hxDF.frm hfH (fun k hk e=>by omega)
     clear k15 f15 c15F c16F hfH hJ1
     generalize (wF.setCell ⟨G+1,0,none⟩ (.int .i64 1)).setCell ⟨G+1,4,none⟩ (.string (zat [s,t] p))=wH at *
     have hxw:Ext w wH:=hx0.trans (hx02.trans hxH)
     have hb8:=b8.ext (hx02.trans hxH)
     have hb9':=b9.ext (hx02.trans hxH)
     obtain⟨f1,f2,f3⟩:=zfo (v:=⟨1,noA,zat [s,t] p,j+1⟩) (A:=none) (n:=0) (c:=0) (A':=none) (n':=0) (c':=0) (x:=aut.al) (X:=Y) (k1:=q1) (d1:=e1) (X':=Y') (k1':=q1') (d1':=e1') hxw hb8 hb9' rfl rfl (by omega) (⟨⟨[],World.ownsRow_nil _ _ _ _,zH.nil _ _⟩,rfl,World.ownsRow_nil _ _ _ _,rfl⟩:zK wH w.heap.size none 0 0 none 0 0 noA)
     have F1:=hide (zcp.cast hfn.out f1.out.drew)
     clear f1
     simp only [noA,Int.natCast_add,Int.cast_ofNat_Int] at F1 f2 f3
     have F2:=hide f2
     have F3:=hide f3
     clear f2 f3
     have k8:=hb8.cell
     have z8:=hb8.frozen
     have k9:=hb9'.cell
     have z9:=hb9'.frozen
     have hne1:G+1≠Z:=by have:=hx02.size;omega
     have hne2:G+1+1≠Z:=by have:=hx02.size;omega
     have C15:∀ W,Frm (fun b=>b=Z) wH W→∀ q,W.cell? ⟨G+1,q,none⟩=#[Value.int .i64 1,.int .i64 0,.slice none 0 0,.slice none 0 0,.string (zat [s,t] p),.int .i64 ((j:Int)+1)][q]?:=fun W hW=>(c15H.frm hW hne1).cell
     have C16:∀ W,Frm (fun b=>b=Z) wH W→∀ q,W.cell? ⟨G+1+1,q,none⟩=#[Value.int .i64 aut.al,.slice Y q1 e1,.slice Y' q1' e1'][q]?:=fun W hW=>(c16H.frm hW hne2).cell
     have hS0:Frm (fun b=>b=Z) wH wH.drew:=⟨rfl,rfl,rfl,Nat.le_refl _,fun _ _ _=>rfl⟩
     have hf8:=hide (zdP wH Z (.int .i64 1) (.int .i64 0) (.slice none 0 0) (.slice none 0 0) (.string (zat [s,t] p)) (.int .i64 ((j:Int)+1)))
     clear c15H c16H hb8 hb9' hxw hne1 hne2
     go_wp2_with fail
     refine zaH (fun Y=>Frm (fun b=>b=Z) wH Y) [3] (OrdU.of [0,1,2,3]) (by kernel_rfl) (by kernel_rfl) (by kernel_rfl) (by kernel_rfl) (by kernel_rfl) (fun _ _ _ _ _ h=>h) hS0 ?_
     refine zby (v:=?_) rfl rfl rfl rfl (fun X hX=>?_) ?_
     rotate_left
     focus (go_simp<;>with_reducible rfl)
     refine pT ?_
     refine zby (v:=?_) rfl rfl rfl rfl (fun X hX=>?_) ?_
     rotate_left
     focus (go_simp<;>with_reducible rfl)
     refine pT ?_
     (refine zb rfl rfl rfl (fun K hK=>?_);go_simp)
     refine hK.out _ _ hf8.out.drew ?_
     refine pT ?_
     (refine za rfl rfl rfl rfl (fun K hK=>?_))
     go_simp
     refine hK.out _ _ ?_
     refine zd ?_
     go_wp2_with fail
     have cf2:=F2.out.cell
     have cf3:=F3.out.cell
     exact bodyPost_ret (v:=.tuple #[.agg #[.int .i64 1,.int .i64 0,.slice none 0 0,.slice none 0 0,.string (zat [s,t] p),.int .i64 ((j:Int)+1)],.agg #[.int .i64 aut.al,.slice Y q1 e1,.slice Y' q1' e1']]) (by simp [results,Tryz.results195,go_sem,cf2,cf3]) rfl F1.out
    ·have e0:(J.2==0)=false:=by simpa using hJ0
     have e2:(J.2==1)=false:=by simpa using hJ1
     have hrunL:=hide (show runT s t p L (K - (j+1)) (j+1) (zbv L (zq s p L) rs cs J.1)=fin by
      have:=hrunJ.out
      rw [if_neg hJ0,if_neg hJ1] at this
      exact this)
     clear hJ0 hJ1 hrunJ
     have cTc:=CTc wE hxDE
     have k13:=c13E.cell
     have HTatE:=hide (show TabAt wE R nr C nc rs cs from ⟨_,_,_,_,Reads.of_own oRE,Reads.of_own oCE⟩)
     go_upto_region 24 with (first
      |(go_at_call 85;refine (HLS.out _ _ _ _ _ _ rs cs J.1 _ hxDE HTatE.out hI'.out hcr hcc hcl'.out (by have:=hJs.out;omega)).mono ?_;intro e wF hret;obtain⟨hxF,nr2,nc2,R2,cr2,C2,cc2,rfl,hcr2,hcc2,hT2⟩:=hret.fill (w0:=w2) hxDE.size;clear hret))
     have hokL:=hide (zcX.learn hI'.out J.1)
     generalize zbv L (zq s p L) rs cs J.1=oL at *
     have hxG:=(Ext.refl wF).alloc (.cells #[.slice R2 nr2 cr2,.slice C2 nc2 cc2] 103)
     have b23:=Blk.new wF 103 #[.slice R2 nr2 cr2,.slice C2 nc2 cc2]
     generalize wF.alloc (.cells #[.slice R2 nr2 cr2,.slice C2 nc2 cc2] 103)=wG at *
     have hxEG:=hxF.trans hxG
     have c13G:=c13E.ext hxEG
     have c15G:=c15E.ext hxEG
     have c16G:=c16E.ext hxEG
     have hxDG:=hxDE.trans hxEG
     have k23:=b23.cell
     have k13G:=c13G.cell
     have f13G:=c13G.frozen
     have hfH:Frm (fun b=>b=G) wG ((wG.setCell ⟨G,0,none⟩ (.slice R2 nr2 cr2)).setCell ⟨G,1,none⟩ (.slice C2 nc2 cc2)):=(Frm.setCell wG _ 0 _).trans (Frm.setCell _ _ 1 _)
     have hTMH:TabM w2 ((wG.setCell ⟨G,0,none⟩ (.slice R2 nr2 cr2)).setCell ⟨G,1,none⟩ (.slice C2 nc2 cc2)) G oL:=
      ⟨nr2,nc2,R2,cr2,C2,cc2,by simpa using (c13G.set_ 0 (.slice R2 nr2 cr2)).set_ 1 (.slice C2 nc2 cc2),hcr2,hcc2,fun rs' cs' e=>by
       have h1:=zf (hT2 rs' cs' e).1 hxG
       have h2:=zf (hT2 rs' cs' e).2 hxG
       exact⟨ze h1 hfH (fun b hv e'=>zo h1 c13G (by decide) hv e'),ze h2 hfH (fun b hv e'=>zo h2 c13G (by decide) hv e')⟩⟩
     have c15H:=c15G.frm hfH (by omega)
     have c16H:=c16G.frm hfH (by omega)
     have hxH:=hxDG.frm hfH (fun k hk e=>by omega)
     clear cTc k13 c13E c15E c16E oRE oCE hownE c13G c15G c16G hfH b23 hT2
     go_upto_region 25 with fail
     generalize (wG.setCell ⟨G,0,none⟩ (.slice R2 nr2 cr2)).setCell ⟨G,1,none⟩ (.slice C2 nc2 cc2)=wH at *
     clear k23 k13G f13G
     have hjj:((j:Int)+1)=((j+1:Nat):Int):=by omega
     rw [hjj] at c15H
     have hmes2:=hide (roAt_blk c15H)
     clear hjj
     go_wp2_with fail
     go_roundw
     case rel=>exact⟨oL,j+1,aut.al,Y,q1,e1,Y',q1',e1',rfl,by omega,hokL,hrunL,hTMH,c15H,c16H,hxH⟩
     case measure=>have h1:=hmes.out;have h2:=hmes2.out;omega
  ·have hfn:=hide (show fin=⟨2,noA,⟨#[]⟩,j⟩ by
    rw [← hrun.out]
    exact runT_end hgo)
   have hb8:=(b8.ext (hx02.trans hxr))
   have hb9':=(b9.ext (hx02.trans hxr))
   have hon:zK wr w.heap.size none 0 0 none 0 0 noA:=⟨⟨[],World.ownsRow_nil _ _ _ _,zH.nil _ _⟩,rfl,World.ownsRow_nil _ _ _ _,rfl⟩
   have hflag:(o.isSome&&decide ((j:Int)<(K:Int)))=false:=by
    rw [Bool.eq_false_iff]
    intro h
    simp only [Bool.and_eq_true,decide_eq_true_eq] at h
    exact hgo ⟨h.1,by omega⟩
   have hxw:Ext w wr:=hx0.trans (hx02.trans hxr)
   have hd:Ext wr wr.drew:=(Ext.refl wr).drew
   obtain⟨f1,f2,f3⟩:=zfo (v:=⟨2,noA,⟨#[]⟩,j⟩) (x:=x) (X:=X) (k1:=k1) (d1:=d1) (X':=X') (k1':=k1') (d1':=d1') hxw hb8 hb9' rfl rfl (by omega) hon
   have F1:=hide (zcp.cast hfn.out f1.out.drew)
   clear f1
   simp only [noA] at F1 f2 f3
   have F2:=hide f2
   have F3:=hide f3
   clear f2 f3
   have k8:=hb8.cell
   have z8:=hb8.frozen
   have k9:=hb9'.cell
   have z9:=hb9'.frozen
   have hsw:=hx0.size
   have hne1:G+1≠Z:=by have:=hx02.size;omega
   have hne2:G+1+1≠Z:=by have:=hx02.size;omega
   have C15:∀ W,Frm (fun b=>b=Z) wr W→∀ q,W.cell? ⟨G+1,q,none⟩=#[Value.int .i64 2,.int .i64 0,.slice none 0 0,.slice none 0 0,.string ⟨#[]⟩,.int .i64 j][q]?:=fun W hW=>(c15.frm hW hne1).cell
   have C16:∀ W,Frm (fun b=>b=Z) wr W→∀ q,W.cell? ⟨G+1+1,q,none⟩=#[Value.int .i64 x,.slice X k1 d1,.slice X' k1' d1'][q]?:=fun W hW=>(c16.frm hW hne2).cell
   have hS0:Frm (fun b=>b=Z) wr wr.drew:=⟨rfl,rfl,rfl,Nat.le_refl _,fun _ _ _=>rfl⟩
   have hf8:=hide (zdP wr (Z) (.int .i64 2) (.int .i64 0) (.slice none 0 0) (.slice none 0 0) (.string ⟨#[]⟩) (.int .i64 j))
   cases ho:o.isSome
   ·have Ho:=hide ho
    rw [ho] at hflag
    exact yH12a2
   ·have hnlt:¬ ((j:Int)<(K:Int)):=fun h=>hgo ⟨ho,by omega⟩
    have Ho:=hide ho
    exact yH12a2
end
set_option maxHeartbeats 2000000
def RetVd (w:World) (v:Vd) (e:Ending) (w':World):Prop:=
 ∃ (A:Option Addr) (n c:Nat) (A':Option Addr) (n' c':Nat),
  e=.returned (.agg #[.int .i64 v.code,.int .i64 v.asm.al,.slice A n c,.slice A' n' c',.string v.tr,.int .i64 v.ro])∧zK w' w.heap.size A n c A' n' c' v.asm∧Ext w w'
section
variable {w:World} {lo hi n c lo1 hi1 m d m' d' lo2 hi2 k c2:Nat} {A B B' C:Option Addr} {s t:Sys} {p:Aut}
set_option maxRecDepth 100000 in
theorem zcl {v:Vd} (HR:Hid (∀ W,Ext w W→Calls Tryz.prog 195 #[.agg #[.int .i64 s.al,.int .i64 s.st,.slice A n c],.agg #[.int .i64 t.al,.int .i64 t.st,.slice C k c2],.agg #[.int .i64 p.al,.slice B m d,.slice B' m' d'],.int .i64 12] W (zcp W v))) :
  Calls Tryz.prog 149 #[.agg #[.int .i64 s.al,.int .i64 s.st,.slice A n c],.agg #[.int .i64 t.al,.int .i64 t.st,.slice C k c2],.agg #[.int .i64 p.al,.slice B m d,.slice B' m' d']] w
   (RetVd w v):=by
 have hx0:Ext w ((((w.alloc (.cells #[.int .i64 s.al,.int .i64 s.st,.slice A n c] 39)).alloc (.cells #[.int .i64 t.al,.int .i64 t.st,.slice C k c2] 39)).alloc (.cells #[.int .i64 p.al,.slice B m d,.slice B' m' d'] 27)).alloc (.cells #[.int .i64 0,.int .i64 0,.slice none 0 0,.slice none 0 0,.string ⟨#[]⟩,.int .i64 0] 109)):=((((Ext.refl _).alloc _).alloc _).alloc _).alloc _
 obtain⟨b1,b2,b3⟩:=zZ ((Ext.refl _).alloc _:Ext (((w.alloc (.cells #[.int .i64 s.al,.int .i64 s.st,.slice A n c] 39)).alloc (.cells #[.int .i64 t.al,.int .i64 t.st,.slice C k c2] 39)).alloc (.cells #[.int .i64 p.al,.slice B m d,.slice B' m' d'] 27)) ((((w.alloc (.cells #[.int .i64 s.al,.int .i64 s.st,.slice A n c] 39)).alloc (.cells #[.int .i64 t.al,.int .i64 t.st,.slice C k c2] 39)).alloc (.cells #[.int .i64 p.al,.slice B m d,.slice B' m' d'] 27)).alloc (.cells #[.int .i64 0,.int .i64 0,.slice none 0 0,.slice none 0 0,.string ⟨#[]⟩,.int .i64 0] 109)))
 have b6:=Blk.new (((w.alloc (.cells #[.int .i64 s.al,.int .i64 s.st,.slice A n c] 39)).alloc (.cells #[.int .i64 t.al,.int .i64 t.st,.slice C k c2] 39)).alloc (.cells #[.int .i64 p.al,.slice B m d,.slice B' m' d'] 27)) 109 #[.int .i64 0,.int .i64 0,.slice none 0 0,.slice none 0 0,.string ⟨#[]⟩,.int .i64 0]
 simp only [World.size_alloc] at b6
 go_enter Tryz.func149,Tryz.ntmps149
 go_upto_region 1 with fail
 generalize (((w.alloc (.cells #[.int .i64 s.al,.int .i64 s.st,.slice A n c] 39)).alloc (.cells #[.int .i64 t.al,.int .i64 t.st,.slice C k c2] 39)).alloc (.cells #[.int .i64 p.al,.slice B m d,.slice B' m' d'] 27)).alloc (.cells #[.int .i64 0,.int .i64 0,.slice none 0 0,.slice none 0 0,.string ⟨#[]⟩,.int .i64 0] 109)=w0 at *
 have c1:=b1.cell
 have cc2:=b2.cell
 have c3:=b3.cell
 go_upto_region 2 with (first
  |(go_at_call 195;refine (HR.out w0 hx0).mono ?_;rintro e w1 ⟨A1,n1,k1,A2,n2,k2,x,X,q1,d1,X',q1',d1',rfl,ho,hx1⟩;clear c1 cc2 c3))
 have hx2:=((Ext.refl w1).alloc (.cells #[.int .i64 v.code,.int .i64 v.asm.al,.slice A1 n1 k1,.slice A2 n2 k2,.string v.tr,.int .i64 v.ro] 109)).alloc (.cells #[.int .i64 x,.slice X q1 d1,.slice X' q1' d1'] 27)
 have b7:=(Blk.new w1 109 #[.int .i64 v.code,.int .i64 v.asm.al,.slice A1 n1 k1,.slice A2 n2 k2,.string v.tr,.int .i64 v.ro]).ext ((Ext.refl _).alloc (.cells #[.int .i64 x,.slice X q1 d1,.slice X' q1' d1'] 27))
 generalize (w1.alloc (.cells #[.int .i64 v.code,.int .i64 v.asm.al,.slice A1 n1 k1,.slice A2 n2 k2,.string v.tr,.int .i64 v.ro] 109)).alloc (.cells #[.int .i64 x,.slice X q1 d1,.slice X' q1' d1'] 27)=w2 at *
 have b62:=b6.ext (hx1.trans hx2)
 have k7:=b7.cell
 have k6:=b62.cell
 have f6:=b62.frozen
 have ho2:=ho.ext hx2
 have hf:=zdP w2 (w.heap.size+1+1+1) (.int .i64 v.code) (.int .i64 v.asm.al) (.slice A1 n1 k1) (.slice A2 n2 k2) (.string v.tr) (.int .i64 v.ro)
 have b63:Blk ((((((w2.setCell ⟨w.heap.size+1+1+1,0,none⟩ (.int .i64 v.code)).setCell ⟨w.heap.size+1+1+1,1,none⟩ (.int .i64 v.asm.al)).setCell ⟨w.heap.size+1+1+1,2,none⟩ (.slice A1 n1 k1)).setCell ⟨w.heap.size+1+1+1,3,none⟩ (.slice A2 n2 k2)).setCell ⟨w.heap.size+1+1+1,4,none⟩ (.string v.tr)).setCell ⟨w.heap.size+1+1+1,5,none⟩ (.int .i64 v.ro)) (w.heap.size+1+1+1) 109 #[.int .i64 v.code,.int .i64 v.asm.al,.slice A1 n1 k1,.slice A2 n2 k2,.string v.tr,.int .i64 v.ro]:=by
  simpa using (((((b62.set_ 0 (.int .i64 v.code)).set_ 1 (.int .i64 v.asm.al)).set_ 2 (.slice A1 n1 k1)).set_ 3 (.slice A2 n2 k2)).set_ 4 (.string v.tr)).set_ 5 (.int .i64 v.ro)
 have ho3:=(ho2.farT b62 hf (by decide)).less hx0.size
 have hx3:=(hx0.trans (hx1.trans hx2)).frm hf (fun k hk e=>by omega)
 have hret:=hide (show RetVd w v (.returned (.agg #[.int .i64 v.code,.int .i64 v.asm.al,.slice A1 n1 k1,.slice A2 n2 k2,.string v.tr,.int .i64 v.ro])) _ from ⟨A1,n1,k1,A2,n2,k2,rfl,ho3,hx3⟩)
 have cf:=hide b63
 clear b62 ho2 ho ho3 hx3 hf b63
 go_wp2_with fail
 have cf:=cf.out.cell
 exact bodyPost_ret (v:=.agg #[.int .i64 v.code,.int .i64 v.asm.al,.slice A1 n1 k1,.slice A2 n2 k2,.string v.tr,.int .i64 v.ro]) (by simp [results,Tryz.results149,go_sem,cf]) rfl hret.out
theorem zfM {L:Nat}(hs:zQ w lo hi A n s)(hp:zF w lo1 hi1 B m B' m' p)(ht:zQ w lo2 hi2 C k t)(hif:iface s p t=(L:Int))(hn:n≤1000000)(hhi:hi≤w.heap.size) :
  Calls Tryz.prog 149 #[.agg #[.int .i64 s.al,.int .i64 s.st,.slice A n c],.agg #[.int .i64 t.al,.int .i64 t.st,.slice C k c2],.agg #[.int .i64 p.al,.slice B m d,.slice B' m' d']] w
   (RetVd w (runT s t p L 12 0 ((zap L (zq s p L) [⟨#[]⟩] 11 [⟨#[]⟩]).map fun r=>(r,[⟨#[]⟩])))):=
 zcl (hide (fun W (hW:Ext w W)=>spec_l12Run (K:=12) (hs.ext hW) (hp.ext hW) (ht.ext hW) hif hn (Nat.le_trans hhi hW.size) (by omega)))
end
set_option maxHeartbeats 1000000
theorem tot_cons (l:List Int) (r:List (List Int)):tot (l :: r)=l.length+tot r:=by simp [tot]
theorem zH.set_ {w w':World} {base j:Nat} {rows:List Value} {ls:List (List Int)} {A:Option Addr} {c:Nat} {l:List Int}(h:zH w base rows ls)(hr:rows[j]?=some (.slice A l.length c))
  (hf:Frm (blk A) w w') (hown:w'.ownsRow base 3 1 (.slice A l.length c) l.length (ints l)):zH w' base rows (ls.set j l):=by
 have hj:j<rows.length:=(List.getElem?_eq_some_iff.1 hr).1
 refine⟨by simp [h.1],fun i row m hi hm=>?_,h.2.2⟩
 by_cases hij:i=j
 ·subst hij
  rw [hr] at hi
  obtain rfl:=Option.some.inj hi
  rw [List.getElem?_set_self (by rw [← h.1];exact hj)] at hm
  obtain rfl:=Option.some.inj hm
  exact hown
 ·rw [List.getElem?_set_ne (fun e=>hij e.symm)] at hm
  refine ze (h.2.1 i row m hi hm) hf (fun b hb hS=>?_)
  obtain⟨ad,rfl,rfl⟩:=hS
  exact h.2.2 i j row _ ad.block hi hr hij hb rfl
set_option maxHeartbeats 2000000
def aut0:Aut:=⟨0,[],[]⟩
theorem own_aut0 (w:World) (base:Nat):zK w base none 0 0 none 0 0 aut0:=⟨⟨[],World.ownsRow_nil _ _ _ _,zH.nil _ _⟩,rfl,World.ownsRow_nil _ _ _ _,rfl⟩
set_option maxHeartbeats 2000000
theorem zdK (s t:Sys) (p:Aut):iface s p t = -1∨∃ L:Nat,iface s p t=(L:Int):=by
 unfold iface
 split
 ·exact .inr ⟨_,rfl⟩
 ·exact .inl rfl
section
variable {w:World} {lo hi n c lo1 hi1 m d m' d' lo2 hi2 k c2:Nat} {A B B' C:Option Addr} {s t:Sys} {p:Aut}
set_option maxRecDepth 100000 in
theorem spec_TaskOf0 (hs:zQ w lo hi A n s)(hp:zF w lo1 hi1 B m B' m' p)(ht:zQ w lo2 hi2 C k t)(hif:iface s p t = -1) :
  Calls Tryz.prog 215 #[.agg #[.int .i64 s.al,.int .i64 s.st,.slice A n c],.agg #[.int .i64 p.al,.slice B m d,.slice B' m' d'],.agg #[.int .i64 t.al,.int .i64 t.st,.slice C k c2]] w
   fun e w'=>e=.returned (.tuple #[.agg #[.int .i64 0,.int .i64 0,.slice none 0 0,.int .i64 0,.slice none 0 0,.slice none 0 0,.int .i64 0],.bool false])∧Ext w w':=by
 have HIf:=hide (fun W (hW:Ext w W)=>zbL (c:=c) (d1:=d) (d1':=d') (c2:=c2) (hs.ext hW) (hp.ext hW) (ht.ext hW))
 rw [hif] at HIf
 clear hs hp ht hif
 have hx0:Ext w ((((w.alloc (.cells #[.int .i64 s.al,.int .i64 s.st,.slice A n c] 39)).alloc (.cells #[.int .i64 p.al,.slice B m d,.slice B' m' d'] 27)).alloc (.cells #[.int .i64 t.al,.int .i64 t.st,.slice C k c2] 39)).alloc (.cells #[.int .i64 0,.int .i64 0,.slice none 0 0,.int .i64 0,.slice none 0 0,.slice none 0 0,.int .i64 0] 98)):=((((Ext.refl _).alloc _).alloc _).alloc _).alloc _
 obtain⟨b1,b2,b3⟩:=zZ ((Ext.refl _).alloc _:Ext (((w.alloc (.cells #[.int .i64 s.al,.int .i64 s.st,.slice A n c] 39)).alloc (.cells #[.int .i64 p.al,.slice B m d,.slice B' m' d'] 27)).alloc (.cells #[.int .i64 t.al,.int .i64 t.st,.slice C k c2] 39)) ((((w.alloc (.cells #[.int .i64 s.al,.int .i64 s.st,.slice A n c] 39)).alloc (.cells #[.int .i64 p.al,.slice B m d,.slice B' m' d'] 27)).alloc (.cells #[.int .i64 t.al,.int .i64 t.st,.slice C k c2] 39)).alloc (.cells #[.int .i64 0,.int .i64 0,.slice none 0 0,.int .i64 0,.slice none 0 0,.slice none 0 0,.int .i64 0] 98)))
 have b4:=Blk.new (((w.alloc (.cells #[.int .i64 s.al,.int .i64 s.st,.slice A n c] 39)).alloc (.cells #[.int .i64 p.al,.slice B m d,.slice B' m' d'] 27)).alloc (.cells #[.int .i64 t.al,.int .i64 t.st,.slice C k c2] 39)) 98 #[.int .i64 0,.int .i64 0,.slice none 0 0,.int .i64 0,.slice none 0 0,.slice none 0 0,.int .i64 0]
 simp only [World.size_alloc] at b4
 go_enter Tryz.func215,Tryz.ntmps215
 go_upto_region 1 with fail
 generalize (((w.alloc (.cells #[.int .i64 s.al,.int .i64 s.st,.slice A n c] 39)).alloc (.cells #[.int .i64 p.al,.slice B m d,.slice B' m' d'] 27)).alloc (.cells #[.int .i64 t.al,.int .i64 t.st,.slice C k c2] 39)).alloc (.cells #[.int .i64 0,.int .i64 0,.slice none 0 0,.int .i64 0,.slice none 0 0,.slice none 0 0,.int .i64 0] 98)=w0 at *
 have CS:=b1.cells
 have CP:=b2.cells
 have CT:=b3.cells
 have hww:=Ext.refl w0
 go_upto_region 3 with (first
  |(go_at_call 58;refine (HIf.out _ hx0).mono ?_;rintro e w1 ⟨rfl,hx01⟩))
 have bz:=b4.ext hx01
 have kz:=bz.cell
 have fz:=bz.frozen
 have hxw:=hx0.trans hx01
 have hf:Frm (fun k=>k=w.heap.size+1+1+1) w1 (((((((w1.setCell ⟨w.heap.size+1+1+1,0,none⟩ (.int .i64 0)).setCell ⟨w.heap.size+1+1+1,1,none⟩ (.int .i64 0)).setCell ⟨w.heap.size+1+1+1,2,none⟩ (.slice none 0 0)).setCell ⟨w.heap.size+1+1+1,3,none⟩ (.int .i64 0)).setCell ⟨w.heap.size+1+1+1,4,none⟩ (.slice none 0 0)).setCell ⟨w.heap.size+1+1+1,5,none⟩ (.slice none 0 0)).setCell ⟨w.heap.size+1+1+1,6,none⟩ (.int .i64 0)):=
  ((((((Frm.setCell w1 _ 0 _).trans (Frm.setCell _ _ 1 _)).trans (Frm.setCell _ _ 2 _)).trans (Frm.setCell _ _ 3 _)).trans (Frm.setCell _ _ 4 _)).trans (Frm.setCell _ _ 5 _)).trans (Frm.setCell _ _ 6 _)
 have bW:Blk (((((((w1.setCell ⟨w.heap.size+1+1+1,0,none⟩ (.int .i64 0)).setCell ⟨w.heap.size+1+1+1,1,none⟩ (.int .i64 0)).setCell ⟨w.heap.size+1+1+1,2,none⟩ (.slice none 0 0)).setCell ⟨w.heap.size+1+1+1,3,none⟩ (.int .i64 0)).setCell ⟨w.heap.size+1+1+1,4,none⟩ (.slice none 0 0)).setCell ⟨w.heap.size+1+1+1,5,none⟩ (.slice none 0 0)).setCell ⟨w.heap.size+1+1+1,6,none⟩ (.int .i64 0)) (w.heap.size+1+1+1) 98 #[.int .i64 0,.int .i64 0,.slice none 0 0,.int .i64 0,.slice none 0 0,.slice none 0 0,.int .i64 0]:=by
  simpa using ((((((bz.set_ 0 (.int .i64 0)).set_ 1 (.int .i64 0)).set_ 2 (.slice none 0 0)).set_ 3 (.int .i64 0)).set_ 4 (.slice none 0 0)).set_ 5 (.slice none 0 0)).set_ 6 (.int .i64 0)
 have hret:=hide (hxw.frm hf (fun k hk e=>by omega))
 go_wp2_with fail
 generalize (((((((w1.setCell ⟨w.heap.size+1+1+1,0,none⟩ (.int .i64 0)).setCell ⟨w.heap.size+1+1+1,1,none⟩ (.int .i64 0)).setCell ⟨w.heap.size+1+1+1,2,none⟩ (.slice none 0 0)).setCell ⟨w.heap.size+1+1+1,3,none⟩ (.int .i64 0)).setCell ⟨w.heap.size+1+1+1,4,none⟩ (.slice none 0 0)).setCell ⟨w.heap.size+1+1+1,5,none⟩ (.slice none 0 0)).setCell ⟨w.heap.size+1+1+1,6,none⟩ (.int .i64 0))=W at *
 have cf:=bW.cell
 exact bodyPost_ret (v:=.tuple #[.agg #[.int .i64 0,.int .i64 0,.slice none 0 0,.int .i64 0,.slice none 0 0,.slice none 0 0,.int .i64 0],.bool false]) (by simp [results,Tryz.results215,go_sem,cf]) rfl ⟨rfl,hret.out⟩
set_option maxRecDepth 100000 in
theorem spec_l12Run0 {K:Nat}(hs:zQ w lo hi A n s)(hp:zF w lo1 hi1 B m B' m' p)(ht:zQ w lo2 hi2 C k t)(hif:iface s p t = -1) :
  Calls Tryz.prog 195 #[.agg #[.int .i64 s.al,.int .i64 s.st,.slice A n c],.agg #[.int .i64 t.al,.int .i64 t.st,.slice C k c2],.agg #[.int .i64 p.al,.slice B m d,.slice B' m' d'],.int .i64 K] w (zcp w ⟨3,noA,⟨#[]⟩,0⟩):=by
 have HT:=hide (fun W (hW:Ext w W)=>spec_TaskOf0 (c:=c) (d:=d) (d':=d') (c2:=c2) (hs.ext hW) (hp.ext hW) (ht.ext hW) hif)
 clear hs hp ht hif
 have hx0:Ext w (((((w.alloc (.cells #[.int .i64 s.al,.int .i64 s.st,.slice A n c] 39)).alloc (.cells #[.int .i64 t.al,.int .i64 t.st,.slice C k c2] 39)).alloc (.cells #[.int .i64 p.al,.slice B m d,.slice B' m' d'] 27)).alloc (.cells #[.int .i64 0,.int .i64 0,.slice none 0 0,.slice none 0 0,.string ⟨#[]⟩,.int .i64 0] 109)).alloc (.cells #[.int .i64 0,.slice none 0 0,.slice none 0 0] 27)):=(((((Ext.refl _).alloc _).alloc _).alloc _).alloc _).alloc _
 obtain⟨b1,b2,b3⟩:=zZ (((Ext.refl _).alloc _).alloc _:Ext (((w.alloc (.cells #[.int .i64 s.al,.int .i64 s.st,.slice A n c] 39)).alloc (.cells #[.int .i64 t.al,.int .i64 t.st,.slice C k c2] 39)).alloc (.cells #[.int .i64 p.al,.slice B m d,.slice B' m' d'] 27)) (((((w.alloc (.cells #[.int .i64 s.al,.int .i64 s.st,.slice A n c] 39)).alloc (.cells #[.int .i64 t.al,.int .i64 t.st,.slice C k c2] 39)).alloc (.cells #[.int .i64 p.al,.slice B m d,.slice B' m' d'] 27)).alloc (.cells #[.int .i64 0,.int .i64 0,.slice none 0 0,.slice none 0 0,.string ⟨#[]⟩,.int .i64 0] 109)).alloc (.cells #[.int .i64 0,.slice none 0 0,.slice none 0 0] 27)))
 have b4:=(Blk.new (((w.alloc (.cells #[.int .i64 s.al,.int .i64 s.st,.slice A n c] 39)).alloc (.cells #[.int .i64 t.al,.int .i64 t.st,.slice C k c2] 39)).alloc (.cells #[.int .i64 p.al,.slice B m d,.slice B' m' d'] 27)) 109 #[.int .i64 0,.int .i64 0,.slice none 0 0,.slice none 0 0,.string ⟨#[]⟩,.int .i64 0]).ext ((Ext.refl _).alloc (.cells #[.int .i64 0,.slice none 0 0,.slice none 0 0] 27))
 have b5:=Blk.new ((((w.alloc (.cells #[.int .i64 s.al,.int .i64 s.st,.slice A n c] 39)).alloc (.cells #[.int .i64 t.al,.int .i64 t.st,.slice C k c2] 39)).alloc (.cells #[.int .i64 p.al,.slice B m d,.slice B' m' d'] 27)).alloc (.cells #[.int .i64 0,.int .i64 0,.slice none 0 0,.slice none 0 0,.string ⟨#[]⟩,.int .i64 0] 109)) 27 #[.int .i64 0,.slice none 0 0,.slice none 0 0]
 simp only [World.size_alloc] at b4 b5
 go_enter Tryz.func195,Tryz.ntmps195
 go_upto_region 1 with fail
 generalize ((((w.alloc (.cells #[.int .i64 s.al,.int .i64 s.st,.slice A n c] 39)).alloc (.cells #[.int .i64 t.al,.int .i64 t.st,.slice C k c2] 39)).alloc (.cells #[.int .i64 p.al,.slice B m d,.slice B' m' d'] 27)).alloc (.cells #[.int .i64 0,.int .i64 0,.slice none 0 0,.slice none 0 0,.string ⟨#[]⟩,.int .i64 0] 109)).alloc (.cells #[.int .i64 0,.slice none 0 0,.slice none 0 0] 27)=w0 at *
 have CS:=b1.cells
 have CT:=b2.cells
 have CP:=b3.cells
 have hww:=Ext.refl w0
 go_upto_region 2 with (first
  |(go_at_call 215;refine (HT.out _ hx0).mono ?_;rintro e w1 ⟨rfl,hx01⟩))
 have hx2:Ext w0 (w1.alloc (.cells #[.int .i64 0,.int .i64 0,.slice none 0 0,.int .i64 0,.slice none 0 0,.slice none 0 0,.int .i64 0] 98)):=hx01.alloc _
 generalize w1.alloc (.cells #[.int .i64 0,.int .i64 0,.slice none 0 0,.int .i64 0,.slice none 0 0,.slice none 0 0,.int .i64 0] 98)=w2 at *
 have bz:=b4.ext hx2
 have kz:=bz.cell
 have fz:=bz.frozen
 have bu:=b5.ext hx2
 have ku:=bu.cell
 have fu:=bu.frozen
 obtain⟨f1,f2,f3⟩:=zfo (v:=⟨3,noA,⟨#[]⟩,0⟩) (A:=none) (n:=0) (c:=0) (A':=none) (n':=0) (c':=0) (x:=0) (X:=none) (k1:=0) (d1:=0) (X':=none) (k1':=0) (d1':=0) (hx0.trans hx2) bz bu rfl rfl (by omega) (own_aut0 _ _)
 dsimp only [noA] at f1 f2 f3
 have F2:=hide f2
 have F3:=hide f3
 clear f2 f3 bz bu b1 b2 b3 b4 b5
 go_wp2_with fail
 generalize (((((((((w2.setCell ⟨w.heap.size+1+1+1,0,none⟩ (.int .i64 3)).setCell ⟨w.heap.size+1+1+1,1,none⟩ (.int .i64 0)).setCell ⟨w.heap.size+1+1+1,2,none⟩ (.slice none 0 0)).setCell ⟨w.heap.size+1+1+1,3,none⟩ (.slice none 0 0)).setCell ⟨w.heap.size+1+1+1,4,none⟩ (.string ⟨#[]⟩)).setCell ⟨w.heap.size+1+1+1,5,none⟩ (.int .i64 0)).setCell ⟨w.heap.size+1+1+1+1,0,none⟩ (.int .i64 0)).setCell ⟨w.heap.size+1+1+1+1,1,none⟩ (.slice none 0 0)).setCell ⟨w.heap.size+1+1+1+1,2,none⟩ (.slice none 0 0))=W at *
 have cf2:=F2.out.cell
 have cf3:=F3.out.cell
 exact bodyPost_ret (v:=.tuple #[.agg #[.int .i64 3,.int .i64 0,.slice none 0 0,.slice none 0 0,.string ⟨#[]⟩,.int .i64 0],.agg #[.int .i64 0,.slice none 0 0,.slice none 0 0]]) (by simp [results,Tryz.results195,go_sem,cf2,cf3]) rfl f1.out
end
noncomputable def vpT (s t:Sys) (p:Aut):Vd:=
 if iface s p t<0 then ⟨3,noA,⟨#[]⟩,0⟩ else runT s t p (iface s p t).toNat 12 0 ((zap (iface s p t).toNat (zq s p (iface s p t).toNat) [⟨#[]⟩] 11 [⟨#[]⟩]).map fun r=>(r,[⟨#[]⟩]))
theorem vpT_neg {s t:Sys} {p:Aut}(h:iface s p t = -1):vpT s t p=⟨3,noA,⟨#[]⟩,0⟩:=by unfold vpT;rw [if_pos (by omega)]
theorem vpT_pos {s t:Sys} {p:Aut} {L:Nat}(h:iface s p t=(L:Int)):vpT s t p=runT s t p L 12 0 ((zap L (zq s p L) [⟨#[]⟩] 11 [⟨#[]⟩]).map fun r=>(r,[⟨#[]⟩])):=by
 have e:(iface s p t).toNat=L:=by omega
 unfold vpT
 rw [if_neg (by omega),e]
theorem iface_lt {s t:Sys} {p:Aut} {L:Nat}(h:iface s p t=(L:Int)):L<64:=by
 obtain⟨vs,vp,vt⟩:=zef (show 0≤iface s p t by omega)
 rw [zcY vs vp vt] at h
 have h1:=zI vt
 have h2:((s.al.toNat|||p.al.toNat)&&&t.al.toNat)≤t.al.toNat:=Nat.and_le_right
 omega
theorem runT_asm {s t:Sys} {p:Aut} {L:Nat}(hL:L<64) (f:Nat):∀ (k:Nat) (o:Option (List ByteArray × List ByteArray)),zcX L (zq s p L) o→zg (runT s t p L f k o).asm=true∨(runT s t p L f k o).asm=noA:=by
 induction f with
 |zero=>exact fun k o _=>.inr rfl
 |succ f ih =>
  intro k o ho
  match o with
  |none=>exact .inr rfl
  |some (rs,cs) =>
   obtain⟨hI,hcl⟩:=ho rs cs rfl
   rw [runT]
   split
   ·exact .inl (zcr hI hcl hL)
   ·split
    ·exact .inr rfl
    ·exact ih _ _ (zcX.learn hI _)
theorem vpT_asm (s t:Sys) (p:Aut):zg (vpT s t p).asm=true∨(vpT s t p).asm=noA:=by
 rcases zdK s t p with h|⟨L,h⟩
 ·rw [vpT_neg h];exact .inr rfl
 ·rw [vpT_pos h]
  exact runT_asm (iface_lt h) 12 0 _ (zcX.new L _)
section
variable {w:World} {lo hi n c lo1 hi1 m d m' d' lo2 hi2 k c2:Nat} {A B B' C:Option Addr} {s t:Sys} {p:Aut}
theorem zeZ (hs:zQ w lo hi A n s)(hp:zF w lo1 hi1 B m B' m' p)(ht:zQ w lo2 hi2 C k t)(hn:n≤1000000)(hhi:hi≤w.heap.size) :
  Calls Tryz.prog 149 #[.agg #[.int .i64 s.al,.int .i64 s.st,.slice A n c],.agg #[.int .i64 t.al,.int .i64 t.st,.slice C k c2],.agg #[.int .i64 p.al,.slice B m d,.slice B' m' d']] w
   (RetVd w (vpT s t p)):=by
 rcases zdK s t p with h|⟨L,h⟩
 ·rw [vpT_neg h]
  exact zcl (hide (fun W (hW:Ext w W)=>spec_l12Run0 (K:=12) (hs.ext hW) (hp.ext hW) (ht.ext hW) h))
 ·rw [vpT_pos h]
  exact zfM hs hp ht h hn hhi
end
set_option maxHeartbeats 1000000
theorem letS_data (l:Nat):(letS l).data.toList=[UInt8.ofNat (97+l)]:=by
 unfold letS
 rw [strOfNums_data]
 rfl
theorem rest_letter {x:ByteArray}(hw:zbz x=true) {k:Nat}(hk:k<x.size):x.extract k x.size=letS (x[k].toNat - 97)++x.extract (k+1) x.size:=by
 have hb:=zbe hw hk
 have hd:x.data.toList.length=x.size:=by simp
 have e:(x.extract k x.size).data.toList=(letS (x[k].toNat - 97)++x.extract (k+1) x.size).data.toList:=by
  rw [ByteArray.data_append,Array.toList_append,letS_data,ByteArray.data_extract,ByteArray.data_extract,Array.toList_extract,Array.toList_extract]
  rw [List.extract_eq_take_drop,List.extract_eq_take_drop,List.take_of_length_le (by rw [List.length_drop];omega),List.take_of_length_le (by rw [List.length_drop];omega)]
  rw [show 97+(x[k].toNat - 97)=x[k].toNat by omega,UInt8.ofNat_toNat]
  have h1:=zbO x k hk
  obtain⟨h2,h3⟩:=List.getElem?_eq_some_iff.1 h1
  rw [List.drop_eq_getElem_cons h2,h3]
  rfl
 have e2:(x.extract k x.size).data=(letS (x[k].toNat - 97)++x.extract (k+1) x.size).data:=Array.toList_inj.1 e
 exact ByteArray.ext e2
section
variable {L:Nat} {f:ByteArray→Bool} {rows cols:List ByteArray}
theorem autT_go {q l:Nat} {r:ByteArray}(hq:rows[q]?=some r)(hl:l<6)(hb:L.testBit l=true):aGo (autT L f rows cols) q l=idxS (zbi f cols rows) (mkS (rowM f cols (r++letS l))):=by
 unfold aGo autT
 simp only [Int.toNat_natCast]
 rw [if_pos hb]
 have h1:(rows.map (zeJ L f rows cols)).getD q []=zeJ L f rows cols r:=by
  rw [List.getD_eq_getElem?_getD,List.getElem?_map,hq];rfl
 rw [h1]
 unfold zeJ
 rw [List.getD_eq_getElem?_getD,List.getElem?_map,zfB hb 6 hl]
 simp
theorem autT_row {q l:Nat} {r:ByteArray}(ho:zaW L f rows cols=none)(hq:rows[q]?=some r)(hl:l<6)(hb:L.testBit l=true) :
  ∃ r2,rows[aGo (autT L f rows cols) q l]?=some r2∧rowM f cols r2=rowM f cols (r++letS l):=by
 rw [autT_go hq hl hb]
 have h1:=zej ho (List.mem_of_getElem? hq) (zD.2 ⟨hl,hb⟩)
 have h2:=idxS_at h1
 unfold zbi at h2 ⊢
 rw [List.getElem?_map] at h2
 obtain⟨r2,h3,h4⟩:=Option.map_eq_some_iff.1 h2
 exact⟨r2,h3,mkS_inj h4⟩
theorem openW_of {x:ByteArray} {r:ByteArray} {l:Nat}(hr:r∈rows)(hl:l<6)(hb:L.testBit l=true)(hx:x=r++letS l)(hn:rowM f cols x∉rows.map (rowM f cols)):zaW L f rows cols≠none:=by
 intro h
 subst hx
 have:=zej h hr (zD.2 ⟨hl,hb⟩)
 obtain⟨y,hy,e⟩:=List.mem_map.1 this
 exact hn (List.mem_map.2 ⟨y,hy,mkS_inj e⟩)
theorem split_open (hI:TabI L f rows cols)(ho:zaW L f rows cols=none) {x col:ByteArray}(hs:zcV L f rows cols x=some col):zaW L f rows (cols++[col])≠none:=by
 unfold zcV at hs
 split at hs
 ·rename_i hc
  obtain⟨hc1,-⟩:=hc
  simp only [Bool.and_eq_true,decide_eq_true_eq] at hc1
  obtain⟨k,hk,rfl⟩:=Option.map_eq_some_iff.1 hs
  have hkl:=List.mem_range.1 (List.mem_of_find?_eq_some hk)
  have hne:=List.find?_some hk
  have hw:=zbf hc1.1
  have hb:=zbe hw hkl
  obtain⟨l,hl⟩:∃ l,x[k].toNat - 97=l:=⟨_,rfl⟩
  have hl6:l<6:=by omega
  have hlb:L.testBit l=true:=by
   have h1:=(inB_iff.1 hc1.1).2
   have h2:(alB (wl x)).testBit l=true:=(zfs _ _).2 (List.mem_of_getElem? (by rw [zeu hkl,hl]))
   rw [← h1,Nat.testBit_and,Bool.and_eq_true] at h2
   exact h2.2
  have hlt:∀ j,j≤x.size→stT L f rows cols x j<rows.length:=fun j hj=>by
   have:=zfG (p:=autT L f rows cols) (ls:=(wl x).take j) (q:=0)
   have hL:L % 64=L % 64:=rfl
   unfold stT
   have key:∀ (ls:List Nat) (q:Nat),q<rows.length→(∀ l∈ls,l<6∧L.testBit l=true)→runA (autT L f rows cols) q ls<rows.length:=by
    intro ls
    induction ls with
    |nil=>intro q hq _;exact hq
    |cons a r ih =>
     intro q hq h
     obtain⟨h1,h2⟩:=h a List.mem_cons_self
     obtain⟨y,hy,-⟩:=autT_row ho (List.getElem?_eq_getElem hq) h1 h2
     exact ih _ (List.getElem?_eq_some_iff.1 hy).1 (fun b hb=>h b (List.mem_cons_of_mem _ hb))
   refine key _ 0 hI.r1 fun a ha=>?_
   have ha:=List.mem_of_mem_take ha
   refine⟨wl_lt hw a ha,?_⟩
   have h1:=(inB_iff.1 hc1.1).2
   have h2:(alB (wl x)).testBit a=true:=(zfs _ _).2 ha
   rw [← h1,Nat.testBit_and,Bool.and_eq_true] at h2
   exact h2.2
  obtain⟨r,hr⟩:∃ r,rows[stT L f rows cols x k]?=some r:=⟨_,List.getElem?_eq_getElem (hlt k (by omega))⟩
  have hst:stT L f rows cols x (k+1)=aGo (autT L f rows cols) (stT L f rows cols x k) l:=by
   unfold stT
   rw [List.take_add_one,zeu hkl,Option.toList_some,zen,hl]
  obtain⟨r2,hr2,he2⟩:=autT_row ho hr hl6 hlb
  rw [← hst] at hr2
  have ha1:askT L f rows cols x k=f (r++letS l++x.extract (k+1) x.size):=by
   unfold askT
   rw [List.getD_eq_getElem?_getD,hr,rest_letter hw hkl,hl,ByteArray.append_assoc];rfl
  have ha2:askT L f rows cols x (k+1)=f (r2++x.extract (k+1) x.size):=by
   unfold askT
   rw [List.getD_eq_getElem?_getD,hr2];rfl
  rw [ha1,ha2] at hne
  refine openW_of (List.mem_of_getElem? hr) hl6 hlb rfl fun hm=>?_
  obtain⟨y,hy,e⟩:=List.mem_map.1 hm
  rw [zem,zem] at e
  obtain⟨e1,e2⟩:=List.append_inj' e rfl
  rw [← he2] at e1
  obtain⟨i,hi⟩:=List.getElem?_of_mem hy
  have hnd:=hI.nd
  have hj1:(rows.map (rowM f cols))[i]?=some (rowM f cols y):=by rw [List.getElem?_map,hi];rfl
  have hj2:(rows.map (rowM f cols))[stT L f rows cols x (k+1)]?=some (rowM f cols y):=by rw [List.getElem?_map,hr2,e1];rfl
  have hij:i=stT L f rows cols x (k+1):=by
   obtain⟨a1,a2⟩:=List.getElem?_eq_some_iff.1 hj1
   obtain⟨b1,b2⟩:=List.getElem?_eq_some_iff.1 hj2
   have hpw:=List.pairwise_iff_getElem.1 hnd
   rcases Nat.lt_trichotomy i (stT L f rows cols x (k+1)) with h1|h1|h1
   ·exact absurd (a2.trans b2.symm) (hpw _ _ a1 b1 h1)
   ·exact h1
   ·exact absurd (b2.trans a2.symm) (hpw _ _ b1 a1 h1)
  rw [hij,hr2] at hi
  obtain rfl:=Option.some.inj hi
  have e3:=List.head_eq_of_cons_eq e2
  rw [e3] at hne
  simp at hne
 ·cases hs
theorem zfA (hI:TabI L f rows cols)(ho:zaW L f rows cols=none) {x:ByteArray} {rs cs:List ByteArray}(h:zbv L f rows cols x=some (rs,cs)):rows.length<rs.length∧cs.length=cols.length+1:=by
 unfold zbv at h
 split at h
 ·cases h
 ·rename_i col hcol
  split at h
  ·rename_i ha
   obtain⟨r,hr,e⟩:=Option.map_eq_some_iff.1 h
   obtain⟨rfl,rfl⟩:=Prod.mk.inj e
   refine⟨?_,by simp⟩
   have hop:=split_open hI ho hcol
   obtain⟨z,hz⟩:=Option.ne_none_iff_exists'.1 hop
   have h12:=hI.r12
   cases hk:12 - rows.length with
   |zero=>rw [hk,zdI hz] at hr;cases hr
   |succ k =>
    rw [hk,zdH _ hz] at hr
    have hI2:=(hI.addC ha).grow (by omega) hz
    obtain⟨-,-,t,ht⟩:=zfv _ _ _ hI2 (by simp;omega) hr
    rw [ht];simp<;>omega
  ·cases h
end
set_option maxHeartbeats 2000000
theorem SLAt.tail {w:World} {lo hi b n:Nat} {ss:List Sys}(h:SLAt w lo hi (some ⟨b,0,none⟩) (n+1) ss):SLAt w lo hi (some ⟨b,3,none⟩) n ss.tail:=by
 obtain⟨e,cells,⟨r1,r2,r3⟩,hx⟩:=h
 refine⟨by rw [List.length_tail];omega,cells.drop 3,⟨by rw [List.length_drop];omega,by omega,fun h0=>?_⟩,fun k s hs=>?_⟩
 ·obtain⟨ad,ha,h1,h2,h3⟩:=r3 (by omega)
  obtain rfl:=Option.some.inj ha
  refine⟨⟨b,3,none⟩,rfl,h1,h2,fun j u hu=>?_⟩
  rw [List.getElem?_drop] at hu
  have:=h3 _ _ hu
  rw [zO] at this ⊢
  rw [Nat.zero_add] at this
  exact this
 ·rw [List.getElem?_tail] at hs
  obtain⟨B,m,c,h0,h1,h2,h3⟩:=hx (k+1) s hs
  refine⟨B,m,c,?_,?_,?_,h3⟩<;>rw [List.getElem?_drop]
  ·rw [← h0];congr 1;omega
  ·rw [← h1];congr 1;omega
  ·rw [← h2];congr 1;omega
set_option maxHeartbeats 2000000
theorem valid_len {s:Sys}(h:zj s=true):s.edges.length≤1536:=by
 unfold zj at h
 simp only [Bool.and_eq_true,decide_eq_true_eq,List.all_eq_true] at h
 obtain⟨-,⟨h1,h2⟩,h3⟩:=h
 have key:∀ (k:Nat) (e:Edg),s.edges[k]?=some e→(k:Int)≤(e.fr*6+e.le)*16+e.ta∧(e.fr*6+e.le)*16+e.ta<1536:=by
  intro k
  induction k with
  |zero =>
   intro e he
   have:=h3 0 (List.mem_range.2 (List.getElem?_eq_some_iff.1 he).1)
   unfold zaM at this
   rw [he] at this
   simp only [edgB,Bool.and_eq_true,decide_eq_true_eq] at this
   obtain⟨⟨⟨h4,h5⟩,⟨h6,h7⟩,h8,h9⟩,-⟩:=this
   unfold hasB at h9
   simp only [Bool.and_eq_true,decide_eq_true_eq] at h9
   omega
  |succ k ih =>
   intro e he
   have hk:=(List.getElem?_eq_some_iff.1 he).1
   have:=h3 (k+1) (List.mem_range.2 hk)
   unfold zaM at this
   rw [he] at this
   obtain⟨q,hq⟩:∃ q,s.edges[k]?=some q:=⟨_,List.getElem?_eq_getElem (by omega)⟩
   have hq2:=ih q hq
   rw [show k+1 - 1=k by omega,hq] at this
   simp only [edgB,Bool.and_eq_true,Bool.or_eq_true,decide_eq_true_eq] at this
   obtain⟨⟨⟨h4,h5⟩,⟨h6,h7⟩,h8,h9⟩,h10⟩:=this
   unfold hasB at h9
   simp only [Bool.and_eq_true,decide_eq_true_eq] at h9
   have hlt:=h10.resolve_left (by omega)
   have hqB:=h3 k (List.mem_range.2 (by omega))
   unfold zaM at hqB
   rw [hq] at hqB
   simp only [edgB,Bool.and_eq_true,Bool.or_eq_true,decide_eq_true_eq] at hqB
   obtain⟨⟨⟨g4,g5⟩,⟨g6,g7⟩,g8,g9⟩,-⟩:=hqB
   unfold hasB at g9
   simp only [Bool.and_eq_true,decide_eq_true_eq] at g9
   unfold ltE at hlt
   split at hlt
   ·split at hlt
    ·rw [decide_eq_true_eq] at hlt;omega
    ·rw [decide_eq_true_eq] at hlt;omega
   ·rw [decide_eq_true_eq] at hlt;omega
 rcases Nat.lt_or_ge 1536 s.edges.length with hlt|hge
 ·have:=key 1536 _ (List.getElem?_eq_getElem hlt)
  omega
 ·exact hge
structure Vc where
 code:Int
 fst:Aut
 snd:Aut
 tr:ByteArray
 ro:Nat
noncomputable def zbW (x y z:Sys) (p:Aut) (L:Nat) (a:Aut):ByteArray × Int × Aut:=
 if zbc x a p=true then (zaY (zbd x a p) L,-1,noA)
 else if (vpT y z a).code=0 then (⟨#[]⟩,0,(vpT y z a).asm)
 else if (vpT y z a).code=2 then (⟨#[]⟩,2,noA)
 else (zaY (vpT y z a).tr L,if zq x p L (zaY (vpT y z a).tr L)=true then -1 else 1,noA)
noncomputable def chT (x y z:Sys) (p:Aut) (L:Nat):Nat→Nat→Option (List ByteArray × List ByteArray)→Vc
 |0,k,_=>⟨2,noA,noA,⟨#[]⟩,k⟩
 |_+1,k,none=>⟨2,noA,noA,⟨#[]⟩,k⟩
 |f+1,k,some tab =>
  if (zbW x y z p L (autT L (zq x p L) tab.1 tab.2)).2.1=0 then ⟨0,autT L (zq x p L) tab.1 tab.2,(zbW x y z p L (autT L (zq x p L) tab.1 tab.2)).2.2,⟨#[]⟩,k+1⟩
  else if (zbW x y z p L (autT L (zq x p L) tab.1 tab.2)).2.1=2 then ⟨2,noA,noA,⟨#[]⟩,k+1⟩
  else if (zbW x y z p L (autT L (zq x p L) tab.1 tab.2)).2.1=1 then ⟨1,noA,noA,zat [x,y,z] p,k+1⟩
  else chT x y z p L f (k+1) (zbv L (zq x p L) tab.1 tab.2 (zbW x y z p L (autT L (zq x p L) tab.1 tab.2)).1)
noncomputable def vcT (ss:List Sys) (p:Aut):Vc:=
 match ss with
 |[x,y,z]=>if 0≤zV [x,y,z] p then chT x y z p (zV [x,y,z] p).toNat 12 0 ((zap (zV [x,y,z] p).toNat (zq x p (zV [x,y,z] p).toNat) [⟨#[]⟩] 11 [⟨#[]⟩]).map fun r=>(r,[⟨#[]⟩])) else ⟨3,noA,noA,⟨#[]⟩,0⟩
 |_=>⟨3,noA,noA,⟨#[]⟩,0⟩
theorem runT_tr (s t:Sys) (p:Aut) (L f:Nat):∀ (k:Nat) (o:Option (List ByteArray × List ByteArray)),(runT s t p L f k o).tr=⟨#[]⟩∨(runT s t p L f k o).tr=zat [s,t] p:=by
 induction f with
 |zero=>intro k o;exact .inl rfl
 |succ f ih =>
  intro k o
  cases o with
  |none=>exact .inl rfl
  |some tab =>
   rw [runT]
   split
   ·exact .inl rfl
   ·split
    ·exact .inr rfl
    ·exact ih _ _
theorem vpT_word {s t:Sys} {p:Aut}(hs:zj s=true)(ht:zj t=true)(hp:zg p=true):zbz (vpT s t p).tr=true:=by
 have h0:zbz (⟨#[]⟩:ByteArray)=true:=by unfold zbz;rfl
 rcases zdK s t p with h|⟨L,h⟩
 ·rw [vpT_neg h];exact h0
 ·rw [vpT_pos h]
  rcases runT_tr s t p L 12 0 ((zap L (zq s p L) [⟨#[]⟩] 11 [⟨#[]⟩]).map fun r=>(r,[⟨#[]⟩])) with e|e
  ·rw [e];exact h0
  ·rw [e];exact (zex (ss:=[s,t]) (p:=p) (zfm (by simp) (by simp) (by simp [hs,ht])) hp).1
def RetVdS (w:World) (v:Vd) (L:Nat) (e:Ending) (w':World):Prop:=
 ∃ (A:Option Addr) (n c:Nat) (A':Option Addr) (n' c':Nat),
  e=.returned (.tuple #[.agg #[.int .i64 v.code,.int .i64 v.asm.al,.slice A n c,.slice A' n' c',.string v.tr,.int .i64 v.ro],.string (zaY v.tr L)])∧zK w' w.heap.size A n c A' n' c' v.asm∧Ext w w'
section
variable {w:World} {lo hi c lo1 hi1 m d m' d' n1 c1 k1 d1 k1' d1' L b o:Nat} {A1 B B' X X':Option Addr} {x y z:Sys} {p a:Aut}
theorem yH12a3 {P:Prop}(h:P:=by
 simpa using (((((bG.set_ 0 (.int .i64 v.code)).set_ 1 (.int .i64 v.asm.al)).set_ 2 (.slice Z1 z1 y1)).set_ 3 (.slice Z2 z2 y2)).set_ 4 (.string v.tr)).set_ 5 (.int .i64 v.ro)
 ):P:=h
set_option maxRecDepth 100000 in
theorem zgR (h:SLAt w lo hi (some ⟨b,o,none⟩) 3 [x,y,z])(ha:zF w lo1 hi1 X k1 X' k1' a) (vy:zj y=true) (vz:zj z=true) (va:zg a=true)(hhi:hi≤w.heap.size)(hL:L<64) :
  Calls Tryz.prog 82 #[.slice (some ⟨b,o,none⟩) 3 c,.agg #[.int .i64 x.al,.int .i64 x.st,.slice A1 n1 c1,.int .i64 p.al,.slice B m d,.slice B' m' d',.int .i64 L],.agg #[.int .i64 a.al,.slice X k1 d1,.slice X' k1' d1']] w (RetVdS w (vpT y z a) L):=by
 obtain⟨By,ny,cy,f0,f1,f2,hy⟩:=h.sys2 (k:=1) (s:=y) rfl
 obtain⟨Bz,nz,cz,g0,g1,g2,hz⟩:=h.sys2 (k:=2) (s:=z) rfl
 have CL:∀ W,Ext w W→W.cell? ⟨b,o+3,none⟩=some (.int .i64 y.al)∧W.cell? ⟨b,o+4,none⟩=some (.int .i64 y.st)∧W.cell? ⟨b,o+5,none⟩=some (.slice By ny cy)∧W.cell? ⟨b,o+6,none⟩=some (.int .i64 z.al)∧W.cell? ⟨b,o+7,none⟩=some (.int .i64 z.st)∧W.cell? ⟨b,o+8,none⟩=some (.slice Bz nz cz):=fun W hW =>
  ⟨hW.cell_some (by simpa using f0),hW.cell_some (by simpa [Nat.add_assoc] using f1),hW.cell_some (by simpa [Nat.add_assoc] using f2),hW.cell_some (by simpa using g0),hW.cell_some (by simpa [Nat.add_assoc] using g1),hW.cell_some (by simpa [Nat.add_assoc] using g2)⟩
 have HV:=hide (fun W (hW:Ext w W)=>zeZ (c:=cy) (d:=d1) (d':=d1') (c2:=cz) (hy.ext hW) (ha.ext hW) (hz.ext hW) (by have:=hy.1;have:=valid_len vy;omega) (Nat.le_trans hhi hW.size))
 have hwd:=hide (vpT_word vy vz va)
 clear h ha vy vz va f0 f1 f2 g0 g1 g2 hy hz hhi
 generalize vpT y z a=v at *
 have hx0:Ext w (((w.alloc (.cells #[.int .i64 x.al,.int .i64 x.st,.slice A1 n1 c1,.int .i64 p.al,.slice B m d,.slice B' m' d',.int .i64 L] 98)).alloc (.cells #[.int .i64 a.al,.slice X k1 d1,.slice X' k1' d1'] 27)).alloc (.cells #[.int .i64 0,.int .i64 0,.slice none 0 0,.slice none 0 0,.string ⟨#[]⟩,.int .i64 0] 109)):=(((Ext.refl _).alloc _).alloc _).alloc _
 obtain⟨b1,b2,b3⟩:=zZ (Ext.refl (((w.alloc (.cells #[.int .i64 x.al,.int .i64 x.st,.slice A1 n1 c1,.int .i64 p.al,.slice B m d,.slice B' m' d',.int .i64 L] 98)).alloc (.cells #[.int .i64 a.al,.slice X k1 d1,.slice X' k1' d1'] 27)).alloc (.cells #[.int .i64 0,.int .i64 0,.slice none 0 0,.slice none 0 0,.string ⟨#[]⟩,.int .i64 0] 109)))
 go_enter Tryz.func82,Tryz.ntmps82
 go_upto_region 1 with fail
 generalize ((w.alloc (.cells #[.int .i64 x.al,.int .i64 x.st,.slice A1 n1 c1,.int .i64 p.al,.slice B m d,.slice B' m' d',.int .i64 L] 98)).alloc (.cells #[.int .i64 a.al,.slice X k1 d1,.slice X' k1' d1'] 27)).alloc (.cells #[.int .i64 0,.int .i64 0,.slice none 0 0,.slice none 0 0,.string ⟨#[]⟩,.int .i64 0] 109)=w0 at *
 have C0:=b1.cells
 have CA:=b2.cells
 have CL0:∀ W,Ext w0 W→W.cell? ⟨b,o+3,none⟩=some (.int .i64 y.al)∧W.cell? ⟨b,o+4,none⟩=some (.int .i64 y.st)∧W.cell? ⟨b,o+5,none⟩=some (.slice By ny cy)∧W.cell? ⟨b,o+6,none⟩=some (.int .i64 z.al)∧W.cell? ⟨b,o+7,none⟩=some (.int .i64 z.st)∧W.cell? ⟨b,o+8,none⟩=some (.slice Bz nz cz):=fun W hW=>CL W (hx0.trans hW)
 clear CL
 have hb3:=b3.lt
 go_cut [8] (fun v8 wx=>∃ (G:Nat) (Z1:Option Addr) (z1 y1:Nat) (Z2:Option Addr) (z2 y2:Nat),v8=.pointer (some ⟨G,0,none⟩)∧w0.heap.size≤G∧Blk wx G 109 #[.int .i64 v.code,.int .i64 v.asm.al,.slice Z1 z1 y1,.slice Z2 z2 y2,.string v.tr,.int .i64 v.ro]∧zK wx w0.heap.size Z1 z1 y1 Z2 z2 y2 v.asm∧Ext w0 wx)
 case first =>
  have hww:=Ext.refl w0
  refine uR (fun X=>Ext w0 X) [7,9] (OrdU.app [0,1,2,3,4,5,6] (OrdU.two 7 (OrdU.of [8,9]) 8 (OrdU.of [7,9]))) ?_
  refine uQ ?_
  have hxd:Ext w0 w0.drew:=hww.drew
  have hsd:=hxd.size
  generalize w0.drew=wd at *
  refine zl rfl rfl rfl rfl (fun K hK=>?_) (fun K hK=>?_)
  ·go_simp
   refine (HV.out _ (hx0.trans hxd)).mono ?_
   rintro e w1 ⟨Z1,z1,y1,Z2,z2,y2,rfl,ho,hx1⟩
   refine hK.out _ _ (hxd.trans hx1) ?_
   refine pT ?_
   (refine zb rfl rfl rfl (fun K hK=>?_);go_simp)
   have hxa:=(Ext.refl w1).alloc (.cells #[.int .i64 0,.int .i64 0,.slice none 0 0,.slice none 0 0,.string ⟨#[]⟩,.int .i64 0] 109)
   have bG:=Blk.new w1 109 #[.int .i64 0,.int .i64 0,.slice none 0 0,.slice none 0 0,.string ⟨#[]⟩,.int .i64 0]
   have hx2:=(hxd.trans hx1).trans hxa
   have hG:w0.heap.size≤w1.heap.size:=(hxd.trans hx1).size
   have ho2:=(ho.ext hxa).less hsd
   refine hK.out _ _ hx2 ?_
   generalize w1.alloc (.cells #[.int .i64 0,.int .i64 0,.slice none 0 0,.slice none 0 0,.string ⟨#[]⟩,.int .i64 0] 109)=w2 at *
   generalize w1.heap.size=G at *
   refine pT ?_
   have cG:=bG.cell
   have fG:=bG.frozen
   (refine za rfl rfl rfl rfl (fun K hK=>?_))
   go_simp
   refine hK.out _ _ ?_
   refine zd ?_
   have hf:=zdP w2 G (.int .i64 v.code) (.int .i64 v.asm.al) (.slice Z1 z1 y1) (.slice Z2 z2 y2) (.string v.tr) (.int .i64 v.ro)
   have bV:Blk ((((((w2.setCell ⟨G,0,none⟩ (.int .i64 v.code)).setCell ⟨G,1,none⟩ (.int .i64 v.asm.al)).setCell ⟨G,2,none⟩ (.slice Z1 z1 y1)).setCell ⟨G,3,none⟩ (.slice Z2 z2 y2)).setCell ⟨G,4,none⟩ (.string v.tr)).setCell ⟨G,5,none⟩ (.int .i64 v.ro)) G 109 #[.int .i64 v.code,.int .i64 v.asm.al,.slice Z1 z1 y1,.slice Z2 z2 y2,.string v.tr,.int .i64 v.ro]:=by
    exact yH12a3
   have Hf:=hide (And.intro hG (And.intro bV (And.intro (ho2.farT bG hf (by decide)) (hx2.frm hf (fun k hk e=>by omega)))))
   clear hf bV ho2 ho hx2 hxa hx1 cG fG bG
   go_wp2_with fail
   go_meet
   exact⟨G,Z1,z1,y1,Z2,z2,y2,rfl,Hf.out⟩
  ·go_simp
   have hxa:=(Ext.refl wd).alloc (.cells #[.int .i64 0,.int .i64 0,.slice none 0 0,.slice none 0 0,.string ⟨#[]⟩,.int .i64 0] 109)
   have bG:=Blk.new wd 109 #[.int .i64 0,.int .i64 0,.slice none 0 0,.slice none 0 0,.string ⟨#[]⟩,.int .i64 0]
   have hx2:=hxd.trans hxa
   refine hK.out _ _ hx2 ?_
   generalize wd.alloc (.cells #[.int .i64 0,.int .i64 0,.slice none 0 0,.slice none 0 0,.string ⟨#[]⟩,.int .i64 0] 109)=w1 at *
   generalize wd.heap.size=G at *
   refine pT ?_
   (refine za rfl rfl rfl rfl (fun K hK=>?_))
   go_simp
   refine (HV.out _ (hx0.trans hx2)).mono ?_
   rintro e w2 ⟨Z1,z1,y1,Z2,z2,y2,rfl,ho,hx1⟩
   have hx3:=hx2.trans hx1
   have ho2:=ho.less hx2.size
   replace bG:=bG.ext hx1
   refine hK.out _ _ ?_
   refine pT ?_
   have cG:=bG.cell
   have fG:=bG.frozen
   (refine za rfl rfl rfl rfl (fun K hK=>?_))
   go_simp
   refine hK.out _ _ ?_
   refine zd ?_
   have hf:=zdP w2 G (.int .i64 v.code) (.int .i64 v.asm.al) (.slice Z1 z1 y1) (.slice Z2 z2 y2) (.string v.tr) (.int .i64 v.ro)
   have bV:Blk ((((((w2.setCell ⟨G,0,none⟩ (.int .i64 v.code)).setCell ⟨G,1,none⟩ (.int .i64 v.asm.al)).setCell ⟨G,2,none⟩ (.slice Z1 z1 y1)).setCell ⟨G,3,none⟩ (.slice Z2 z2 y2)).setCell ⟨G,4,none⟩ (.string v.tr)).setCell ⟨G,5,none⟩ (.int .i64 v.ro)) G 109 #[.int .i64 v.code,.int .i64 v.asm.al,.slice Z1 z1 y1,.slice Z2 z2 y2,.string v.tr,.int .i64 v.ro]:=by
    exact yH12a3
   have Hf:=hide (And.intro hsd (And.intro bV (And.intro (ho2.farT bG hf (by decide)) (hx3.frm hf (fun k hk e=>by omega)))))
   clear hf bV ho2 ho hx3 hx2 hxa hx1 cG fG bG
   go_wp2_with fail
   go_meet
   exact⟨G,Z1,z1,y1,Z2,z2,y2,rfl,Hf.out⟩
 case rest =>
  obtain⟨G,Z1,z1,y1,Z2,z2,y2,rfl,hG,bV,ho,hxc⟩:=hcut
  have hHR:=hide (zaE (s:=v.tr) (a:=L) (w:=wc.drew) hwd.out (by omega))
  have b3c:=b3.ext hxc
  have hlt:=bV.lt
  have C0c:∀ W,Ext wc W→∀ q,W.cell? ⟨w.heap.size,q,none⟩=#[Value.int .i64 x.al,.int .i64 x.st,.slice A1 n1 c1,.int .i64 p.al,.slice B m d,.slice B' m' d',.int .i64 L][q]?:=fun W hW=>C0 W (hxc.trans hW)
  have CV:=bV.cells
  have hww:=Ext.refl wc
  clear C0 CA CL0
  go_upto_region 2 with fail
  refine uR (fun X=>Ext wc X) [6] (OrdU.of [0,1,2,3,4,5,6,7]) ?_
  refine uQ ?_
  (refine zb rfl rfl rfl (fun K hK=>?_);go_simp)
  refine hHR.out.mono ?_
  rintro e w3 ⟨rfl,hx3⟩
  have hxc3:Ext wc w3:=hww.drew.trans hx3
  refine hK.out _ _ hxc3 ?_
  refine pT ?_
  replace b3c:=b3c.ext hxc3
  replace ho:=(ho.ext hxc3).less hx0.size
  have cR:=b3c.cell
  have fR:=b3c.frozen
  (refine za rfl rfl rfl rfl (fun K hK=>?_))
  go_simp
  refine hK.out _ _ ?_
  refine uQ ?_
  refine zd ?_
  have hf:=zdP w3 (w.heap.size+1+1) (.int .i64 v.code) (.int .i64 v.asm.al) (.slice Z1 z1 y1) (.slice Z2 z2 y2) (.string v.tr) (.int .i64 v.ro)
  have bR:Blk ((((((w3.setCell ⟨w.heap.size+1+1,0,none⟩ (.int .i64 v.code)).setCell ⟨w.heap.size+1+1,1,none⟩ (.int .i64 v.asm.al)).setCell ⟨w.heap.size+1+1,2,none⟩ (.slice Z1 z1 y1)).setCell ⟨w.heap.size+1+1,3,none⟩ (.slice Z2 z2 y2)).setCell ⟨w.heap.size+1+1,4,none⟩ (.string v.tr)).setCell ⟨w.heap.size+1+1,5,none⟩ (.int .i64 v.ro)) (w.heap.size+1+1) 109 #[.int .i64 v.code,.int .i64 v.asm.al,.slice Z1 z1 y1,.slice Z2 z2 y2,.string v.tr,.int .i64 v.ro]:=by
   simpa using (((((b3c.set_ 0 (.int .i64 v.code)).set_ 1 (.int .i64 v.asm.al)).set_ 2 (.slice Z1 z1 y1)).set_ 3 (.slice Z2 z2 y2)).set_ 4 (.string v.tr)).set_ 5 (.int .i64 v.ro)
  have hret:=hide (show RetVdS w v L (.returned (.tuple #[.agg #[.int .i64 v.code,.int .i64 v.asm.al,.slice Z1 z1 y1,.slice Z2 z2 y2,.string v.tr,.int .i64 v.ro],.string (zaY v.tr L)])) _ from ⟨Z1,z1,y1,Z2,z2,y2,rfl,ho.farT b3c hf (by decide),(hx0.trans (hxc.trans hxc3)).frm hf (fun k hk e=>by omega)⟩)
  have HbR:=hide bR
  clear hf bR b3c cR fR ho
  go_wp2_with fail
  have cf:=HbR.out.cell
  exact bodyPost_ret (v:=.tuple #[.agg #[.int .i64 v.code,.int .i64 v.asm.al,.slice Z1 z1 y1,.slice Z2 z2 y2,.string v.tr,.int .i64 v.ro],.string (zaY v.tr L)]) (by simp [results,Tryz.results82,go_sem,cf]) rfl hret.out
end
set_option maxHeartbeats 4000000
theorem vc_frm (W:World) (Z:Nat) (u0 u1 u2 u3 u4 u5 u6 u7 u8:Value):Frm (fun k=>k=Z) W (((((((((W.setCell ⟨Z,0,none⟩ (u0)).setCell ⟨Z,1,none⟩ (u1)).setCell ⟨Z,2,none⟩ (u2)).setCell ⟨Z,3,none⟩ (u3)).setCell ⟨Z,4,none⟩ (u4)).setCell ⟨Z,5,none⟩ (u5)).setCell ⟨Z,6,none⟩ (u6)).setCell ⟨Z,7,none⟩ (u7)).setCell ⟨Z,8,none⟩ (u8)):=
 ((((((((Frm.setCell W _ 0 _).trans (Frm.setCell _ _ 1 _)).trans (Frm.setCell _ _ 2 _)).trans (Frm.setCell _ _ 3 _)).trans (Frm.setCell _ _ 4 _)).trans (Frm.setCell _ _ 5 _)).trans (Frm.setCell _ _ 6 _)).trans (Frm.setCell _ _ 7 _)).trans (Frm.setCell _ _ 8 _)
theorem zgw {W:World} {Z:Nat} {t:TypeId} {vs:Array Value}(h:Blk W Z t vs)(h9:vs.size=9) (u0 u1 u2 u3 u4 u5 u6 u7 u8:Value):Blk (((((((((W.setCell ⟨Z,0,none⟩ (u0)).setCell ⟨Z,1,none⟩ (u1)).setCell ⟨Z,2,none⟩ (u2)).setCell ⟨Z,3,none⟩ (u3)).setCell ⟨Z,4,none⟩ (u4)).setCell ⟨Z,5,none⟩ (u5)).setCell ⟨Z,6,none⟩ (u6)).setCell ⟨Z,7,none⟩ (u7)).setCell ⟨Z,8,none⟩ (u8)) Z t #[u0,u1,u2,u3,u4,u5,u6,u7,u8]:=by
 obtain⟨lv⟩:=vs
 match lv,h9 with
 |[a0,a1,a2,a3,a4,a5,a6,a7,a8],_ =>
  simpa using ((((((((h.set_ 0 u0).set_ 1 u1).set_ 2 u2).set_ 3 u3).set_ 4 u4).set_ 5 u5).set_ 6 u6).set_ 7 u7).set_ 8 u8
def zfr (w:World) (v:Vc) (e:Ending) (w':World):Prop:=
 ∃ (A:Option Addr) (n c:Nat) (A':Option Addr) (n' c':Nat) (C:Option Addr) (k d:Nat) (C':Option Addr) (k' d':Nat),
  e=.returned (.agg #[.int .i64 v.code,.int .i64 v.fst.al,.slice A n c,.slice A' n' c',.int .i64 v.snd.al,.slice C k d,.slice C' k' d',.string v.tr,.int .i64 v.ro])∧zK w' w.heap.size A n c A' n' c' v.fst∧zK w' w.heap.size C k d C' k' d' v.snd∧Ext w w'
theorem zfr.cast {w W:World} {v u:Vc} {e:Ending}(hu:u=v)(h:zfr w v e W):zfr w u e W:=hu ▸ h
theorem zdc (W:World) (base:Nat):zK W base none 0 0 none 0 0 noA:=⟨⟨[],World.ownsRow_nil _ _ _ _,zH.nil _ _⟩,rfl,World.ownsRow_nil _ _ _ _,rfl⟩
theorem zfU {w W:World} {Z n c n' c' k d k' d':Nat} {A A' C C':Option Addr} {v:Vc} {vs:Array Value}(hx:Ext w W)(hv:Blk W Z 63 vs) (_h9:vs.size=9)(hZ:w.heap.size≤Z)(ho:zK W w.heap.size A n c A' n' c' v.fst)(ho2:zK W w.heap.size C k d C' k' d' v.snd) :
  zfr w v (.returned (.agg #[.int .i64 v.code,.int .i64 v.fst.al,.slice A n c,.slice A' n' c',.int .i64 v.snd.al,.slice C k d,.slice C' k' d',.string v.tr,.int .i64 v.ro]))
   (((((((((W.setCell ⟨Z,0,none⟩ (.int .i64 v.code)).setCell ⟨Z,1,none⟩ (.int .i64 v.fst.al)).setCell ⟨Z,2,none⟩ (.slice A n c)).setCell ⟨Z,3,none⟩ (.slice A' n' c')).setCell ⟨Z,4,none⟩ (.int .i64 v.snd.al)).setCell ⟨Z,5,none⟩ (.slice C k d)).setCell ⟨Z,6,none⟩ (.slice C' k' d')).setCell ⟨Z,7,none⟩ (.string v.tr)).setCell ⟨Z,8,none⟩ (.int .i64 v.ro)):=by
 have hf:=vc_frm W Z (.int .i64 v.code) (.int .i64 v.fst.al) (.slice A n c) (.slice A' n' c') (.int .i64 v.snd.al) (.slice C k d) (.slice C' k' d') (.string v.tr) (.int .i64 v.ro)
 exact⟨A,n,c,A',n',c',C,k,d,C',k',d',rfl,ho.farT hv hf (by decide),ho2.farT hv hf (by decide),hx.frm hf (fun k hk e=>by omega)⟩
section
variable {w:World} {lo hi c lo1 hi1 m d m' d' n:Nat} {A B B':Option Addr} {ss:List Sys} {p:Aut}
set_option maxRecDepth 100000 in
theorem zgQ {r:Int}(h:SLAt w lo hi A n ss)(hp:zF w lo1 hi1 B m B' m' p) :
  Calls Tryz.prog 84 #[.slice A n c,.agg #[.int .i64 p.al,.slice B m d,.slice B' m' d'],.int .i64 r] w fun e w'=>e=.returned (.agg #[.int .i64 1,.int .i64 0,.slice none 0 0,.slice none 0 0,.int .i64 0,.slice none 0 0,.slice none 0 0,.string (zat ss p),.int .i64 r])∧Ext w w':=by
 have HP:=hide (fun W (hW:Ext w W)=>zaJ (c:=c) (d2:=d) (d2':=d') (h.ext hW) (hp.ext hW))
 clear h hp
 generalize zat ss p=bw at *
 generalize zbH ss p=bb at *
 have hx0:Ext w ((w.alloc (.cells #[.int .i64 p.al,.slice B m d,.slice B' m' d'] 27)).alloc (.cells #[.int .i64 0,.int .i64 0,.slice none 0 0,.slice none 0 0,.int .i64 0,.slice none 0 0,.slice none 0 0,.string ⟨#[]⟩,.int .i64 0] 63)):=((Ext.refl _).alloc _).alloc _
 obtain⟨b1,b2⟩:=zR (Ext.refl ((w.alloc (.cells #[.int .i64 p.al,.slice B m d,.slice B' m' d'] 27)).alloc (.cells #[.int .i64 0,.int .i64 0,.slice none 0 0,.slice none 0 0,.int .i64 0,.slice none 0 0,.slice none 0 0,.string ⟨#[]⟩,.int .i64 0] 63)))
 go_enter Tryz.func84,Tryz.ntmps84
 go_upto_region 1 with fail
 generalize (w.alloc (.cells #[.int .i64 p.al,.slice B m d,.slice B' m' d'] 27)).alloc (.cells #[.int .i64 0,.int .i64 0,.slice none 0 0,.slice none 0 0,.int .i64 0,.slice none 0 0,.slice none 0 0,.string ⟨#[]⟩,.int .i64 0] 63)=w0 at *
 have c1:=b1.cell
 go_upto_region 2 with (first
  |(go_at_call 155;refine (HP.out _ hx0).mono ?_;rintro e w1 ⟨rfl,hx1⟩))
 have b22:=b2.ext hx1
 have k2:=b22.cell
 have f2:=b22.frozen
 have hf:=vc_frm w1 (w.heap.size+1) (.int .i64 1) (.int .i64 0) (.slice none 0 0) (.slice none 0 0) (.int .i64 0) (.slice none 0 0) (.slice none 0 0) (.string bw) (.int .i64 r)
 have hb:=hide (zgw b22 rfl (.int .i64 1) (.int .i64 0) (.slice none 0 0) (.slice none 0 0) (.int .i64 0) (.slice none 0 0) (.slice none 0 0) (.string bw) (.int .i64 r))
 have hret:=hide ((hx0.trans hx1).frm hf (fun k hk e=>by omega))
 clear hf b22
 go_wp2_with fail
 have cf:=hb.out.cell
 exact bodyPost_ret (v:=.agg #[.int .i64 1,.int .i64 0,.slice none 0 0,.slice none 0 0,.int .i64 0,.slice none 0 0,.slice none 0 0,.string bw,.int .i64 r]) (by simp [results,Tryz.results84,go_sem,cf]) rfl ⟨rfl,hret.out⟩
set_option maxRecDepth 100000 in
theorem zeE (h:SLAt w lo hi A n ss)(hp:zF w lo1 hi1 B m B' m' p)(h3:three ss p=false) :
  Calls Tryz.prog 38 #[.slice A n c,.agg #[.int .i64 p.al,.slice B m d,.slice B' m' d']] w (zfr w ⟨3,noA,noA,⟨#[]⟩,0⟩):=by
 have hc1:=hide (show zV ss p = -1 by unfold zV;rw [h3];rfl)
 have HCL:=hide (fun W (hW:Ext w W)=>zaX (c:=c) (d:=d) (d':=d') (h.ext hW) (hp.ext hW))
 rw [hc1.out] at HCL
 clear h hp h3
 generalize zaK ss p=q2 at *
 have hx0:Ext w ((w.alloc (.cells #[.int .i64 p.al,.slice B m d,.slice B' m' d'] 27)).alloc (.cells #[.int .i64 0,.int .i64 0,.slice none 0 0,.slice none 0 0,.int .i64 0,.slice none 0 0,.slice none 0 0,.string ⟨#[]⟩,.int .i64 0] 63)):=((Ext.refl _).alloc _).alloc _
 obtain⟨b1,b2⟩:=zR (Ext.refl ((w.alloc (.cells #[.int .i64 p.al,.slice B m d,.slice B' m' d'] 27)).alloc (.cells #[.int .i64 0,.int .i64 0,.slice none 0 0,.slice none 0 0,.int .i64 0,.slice none 0 0,.slice none 0 0,.string ⟨#[]⟩,.int .i64 0] 63)))
 go_enter Tryz.func38,Tryz.ntmps38
 go_upto_region 1 with fail
 generalize (w.alloc (.cells #[.int .i64 p.al,.slice B m d,.slice B' m' d'] 27)).alloc (.cells #[.int .i64 0,.int .i64 0,.slice none 0 0,.slice none 0 0,.int .i64 0,.slice none 0 0,.slice none 0 0,.string ⟨#[]⟩,.int .i64 0] 63)=w0 at *
 have c1:=b1.cell
 go_upto_region 3 with (first
  |(go_at_call 40;refine (HCL.out _ hx0).mono ?_;rintro e w1 ⟨rfl,hx1⟩))
 have b22:=b2.ext hx1
 have k2:=b22.cell
 have f2:=b22.frozen
 have hb:=hide (zgw b22 rfl (.int .i64 3) (.int .i64 0) (.slice none 0 0) (.slice none 0 0) (.int .i64 0) (.slice none 0 0) (.slice none 0 0) (.string ⟨#[]⟩) (.int .i64 0))
 have hret:=hide (zfU (v:=⟨3,noA,noA,⟨#[]⟩,0⟩) (hx0.trans hx1) b22 rfl (by omega) (zdc w1 _) (zdc w1 _))
 clear b22
 go_wp2_with fail
 have cf:=hb.out.cell
 exact bodyPost_ret (v:=.agg #[.int .i64 3,.int .i64 0,.slice none 0 0,.slice none 0 0,.int .i64 0,.slice none 0 0,.slice none 0 0,.string ⟨#[]⟩,.int .i64 0]) (by simp [results,Tryz.results38,go_sem,cf]) rfl hret.out
theorem yH12a1 {P:Prop}(h:P:=by
 generalize zbv L (zq x p L) rs cs rw_=oL at *
 have hxG:=(Ext.refl wF).alloc (.cells #[.slice R2 nr2 cr2,.slice C2 nc2 cc2] 103)
 have b19:=Blk.new wF 103 #[.slice R2 nr2 cr2,.slice C2 nc2 cc2]
 generalize wF.alloc (.cells #[.slice R2 nr2 cr2,.slice C2 nc2 cc2] 103)=wG at *
 have b9G:=b9E.ext (hxF.trans hxG)
 have hxG2:=hxE.trans (hxF.trans hxG)
 have k19:=b19.cell
 have k9G:=b9G.cell
 have f9G:=b9G.frozen
 have hfH:Frm (fun b=>b=G) wG ((wG.setCell ⟨G,0,none⟩ (.slice R2 nr2 cr2)).setCell ⟨G,1,none⟩ (.slice C2 nc2 cc2)):=(Frm.setCell wG _ 0 _).trans (Frm.setCell _ _ 1 _)
 have hTMH:TabM w2 ((wG.setCell ⟨G,0,none⟩ (.slice R2 nr2 cr2)).setCell ⟨G,1,none⟩ (.slice C2 nc2 cc2)) G oL:=
  ⟨nr2,nc2,R2,cr2,C2,cc2,by simpa using (b9G.set_ 0 (.slice R2 nr2 cr2)).set_ 1 (.slice C2 nc2 cc2),hcr2,hcc2,fun rs' cs' e=>by
   have h1:=zf (hT2 rs' cs' e).1 hxG
   have h2:=zf (hT2 rs' cs' e).2 hxG
   exact⟨ze h1 hfH (fun b hv e'=>zo h1 b9G (by decide) hv e'),ze h2 hfH (fun b hv e'=>zo h2 b9G (by decide) hv e')⟩⟩
 have hxH:=hxG2.frm hfH (fun k hk e=>by omega)
 clear cTc k9 b9E oRE oCE b9G hfH b19 hT2 hxF hxG hxG2 HTatE
 go_upto_region 25 with fail
 generalize (wG.setCell ⟨G,0,none⟩ (.slice R2 nr2 cr2)).setCell ⟨G,1,none⟩ (.slice C2 nc2 cc2)=wH at *
 clear k19 k9G f9G
 go_wp2_with fail
 go_roundw
 case rel=>exact⟨oL,j+1,rfl,by push_cast;rfl,by omega,hide (fun rs' cs' e=>by have:=hmore.out rs' cs' e;have:=hjl.out;omega),hokL,hrunL,hTMH,hxH⟩
 case measure=>simp [intOf];omega
 ):P:=h
set_option maxRecDepth 100000 in
theorem zeF {x y z:Sys} {L b o:Nat}(h:SLAt w lo hi (some ⟨b,o,none⟩) 3 [x,y,z])(hp:zF w lo1 hi1 B m B' m' p)(h3:three [x,y,z] p=true)(hc:zV [x,y,z] p=(L:Int))(hL:L<64)(hhi:hi≤w.heap.size)(hhi1:hi1≤w.heap.size) :
  Calls Tryz.prog 38 #[.slice (some ⟨b,o,none⟩) 3 c,.agg #[.int .i64 p.al,.slice B m d,.slice B' m' d']] w (zfr w (chT x y z p L 12 0 ((zap L (zq x p L) [⟨#[]⟩] 11 [⟨#[]⟩]).map fun r=>(r,[⟨#[]⟩])))):=by
 obtain⟨-,hpa,vp⟩:=zcD.1 h3
 obtain⟨-,hv⟩:=zan hpa
 have vx:=hv x (by simp)
 have vy:=hv y (by simp)
 have vz:=hv z (by simp)
 obtain⟨A1,n1,c1,f0,f1,f2,hxs⟩:=h.sys2 (k:=0) (s:=x) rfl
 have CL:∀ W,Ext w W→W.cell? ⟨b,o,none⟩=some (.int .i64 x.al)∧W.cell? ⟨b,o+1,none⟩=some (.int .i64 x.st)∧W.cell? ⟨b,o+2,none⟩=some (.slice A1 n1 c1):=fun W hW =>
  ⟨hW.cell_some (by simpa using f0),hW.cell_some (by simpa using f1),hW.cell_some (by simpa using f2)⟩
 have htch0:Tch w A1 n1 B m B' m' x p L:=⟨⟨min lo lo1,max hi hi1,hxs.more (Nat.min_le_left _ _) (Nat.le_max_left _ _),hp.more (Nat.min_le_right _ _) (Nat.le_max_right _ _),Nat.max_le.2 ⟨hhi,hhi1⟩⟩,vx,vp,hL⟩
 have HCL:=hide (fun W (hW:Ext w W)=>zaX (c:=c) (d:=d) (d':=d') (h.ext hW) (hp.ext hW))
 rw [hc] at HCL
 have HFl:=hide (fun W (hW:Ext w W) (r:Int)=>zgQ (c:=c) (d:=d) (d':=d') (r:=r) (h.ext hW) (hp.ext hW))
 have HVU:=hide (fun W (hW:Ext w W) (a:Aut) (X:Option Addr) (k1 d1:Nat) (X':Option Addr) (k1' d1' l1 l2:Nat) (ha:zF W l1 l2 X k1 X' k1' a)=>zbl (c:=c1) (d1:=d1) (d1':=d1') (d2:=d) (d2':=d') (hxs.ext hW) ha (hp.ext hW))
 have HJ:=hide (fun W (hW:Ext w W) (a:Aut) (X:Option Addr) (k1 d1:Nat) (X':Option Addr) (k1' d1' l1 l2:Nat) (ha:zF W l1 l2 X k1 X' k1' a) (va:zg a=true)=>zgR (c:=c) (A1:=A1) (n1:=n1) (c1:=c1) (p:=p) (B:=B) (m:=m) (d:=d) (B':=B') (m':=m') (d':=d') (d1:=d1) (d1':=d1') (h.ext hW) ha vy vz va (Nat.le_trans hhi hW.size) hL)
 have Hv:=hide (And.intro vx (And.intro vy (And.intro vz vp)))
 obtain⟨fin,hfin⟩:∃ fin,Hid (chT x y z p L 12 0 ((zap L (zq x p L) [⟨#[]⟩] 11 [⟨#[]⟩]).map fun r=>(r,[⟨#[]⟩]))=fin):=⟨_,rfl⟩
 have htok:=hide (zcX.new L (zq x p L))
 rw [hfin.out]
 obtain⟨tab0,htab⟩:∃ tab0,Hid ((zap L (zq x p L) [⟨#[]⟩] 11 [⟨#[]⟩]).map (fun r=>(r,[(⟨#[]⟩:ByteArray)]))=tab0):=⟨_,rfl⟩
 rw [htab.out] at hfin htok
 have hrow0:=hide (fun rs cs (e:tab0=some (rs,cs))=>show 0<rs.length from by have:=((htok.out rs cs e).1).r1;omega)
 clear h hp h3 hc hpa vp hv vx vy vz f0 f1 f2 hxs
 generalize zaK [x,y,z] p=q2 at *
 have hneg:¬ (L:Int)<0:=by omega
 have hx0:Ext w ((w.alloc (.cells #[.int .i64 p.al,.slice B m d,.slice B' m' d'] 27)).alloc (.cells #[.int .i64 0,.int .i64 0,.slice none 0 0,.slice none 0 0,.int .i64 0,.slice none 0 0,.slice none 0 0,.string ⟨#[]⟩,.int .i64 0] 63)):=((Ext.refl _).alloc _).alloc _
 obtain⟨b1,b2⟩:=zR (Ext.refl ((w.alloc (.cells #[.int .i64 p.al,.slice B m d,.slice B' m' d'] 27)).alloc (.cells #[.int .i64 0,.int .i64 0,.slice none 0 0,.slice none 0 0,.int .i64 0,.slice none 0 0,.slice none 0 0,.string ⟨#[]⟩,.int .i64 0] 63)))
 go_enter Tryz.func38,Tryz.ntmps38
 go_upto_region 1 with fail
 generalize (w.alloc (.cells #[.int .i64 p.al,.slice B m d,.slice B' m' d'] 27)).alloc (.cells #[.int .i64 0,.int .i64 0,.slice none 0 0,.slice none 0 0,.int .i64 0,.slice none 0 0,.slice none 0 0,.string ⟨#[]⟩,.int .i64 0] 63)=w0 at *
 have hb2:=b2.lt
 have hZw:w.heap.size≤w.heap.size+1:=by omega
 have CP0:=b1.cells
 have hww0:=Ext.refl w0
 go_upto_region 4 with (first
  |(go_at_call 40;refine (HCL.out _ hx0).mono ?_;rintro e w1 ⟨rfl,hx1⟩))
 generalize w.heap.size+1=Z at *
 have CL1:∀ W,Ext w1 W→W.cell? ⟨b,o,none⟩=some (.int .i64 x.al)∧W.cell? ⟨b,o+1,none⟩=some (.int .i64 x.st)∧W.cell? ⟨b,o+2,none⟩=some (.slice A1 n1 c1):=fun W hW=>CL W (hx0.trans (hx1.trans hW))
 have CP1:∀ W,Ext w1 W→∀ q,W.cell? ⟨w.heap.size,q,none⟩=#[Value.int .i64 p.al,.slice B m d,.slice B' m' d'][q]?:=fun W hW=>CP0 W (hx1.trans hW)
 clear hww0 hneg
 go_cut [7] (fun v wx=>∃ G:Nat,v=.pointer (some ⟨G,0,none⟩)∧Blk wx G 98 #[.int .i64 x.al,.int .i64 x.st,.slice A1 n1 c1,.int .i64 p.al,.slice B m d,.slice B' m' d',.int .i64 L]∧Ext w1 wx)
 case first =>
  have hww:=Ext.refl w1
  have hxd:Ext w1 w1.drew:=hww.drew
  refine uR (fun X=>Ext w1 X) [7] (OrdU.of [0,1,2,3,4,5,6,7]) ?_
  refine uQ ?_
  generalize w1.drew=wd at *
  (refine zb rfl rfl rfl (fun K hK=>?_);go_simp)
  have hxa:=(Ext.refl wd).alloc (.cells #[.int .i64 0,.int .i64 0,.slice none 0 0,.int .i64 0,.slice none 0 0,.slice none 0 0,.int .i64 0] 98)
  have bG:=Blk.new wd 98 #[.int .i64 0,.int .i64 0,.slice none 0 0,.int .i64 0,.slice none 0 0,.slice none 0 0,.int .i64 0]
  have hx2:=hxd.trans hxa
  have hsG:=hxd.size
  refine hK.out _ _ hx2 ?_
  generalize wd.alloc (.cells #[.int .i64 0,.int .i64 0,.slice none 0 0,.int .i64 0,.slice none 0 0,.slice none 0 0,.int .i64 0] 98)=we at *
  generalize wd.heap.size=G at *
  refine pT ?_
  have cG:=bG.cell
  have fG:=bG.frozen
  (refine za rfl rfl rfl rfl (fun K hK=>?_))
  go_simp
  refine hK.out _ _ ?_
  refine zd ?_
  have hf:Frm (fun k=>k=G) we (((((((we.setCell ⟨G,0,none⟩ (.int .i64 x.al)).setCell ⟨G,1,none⟩ (.int .i64 x.st)).setCell ⟨G,2,none⟩ (.slice A1 n1 c1)).setCell ⟨G,3,none⟩ (.int .i64 p.al)).setCell ⟨G,4,none⟩ (.slice B m d)).setCell ⟨G,5,none⟩ (.slice B' m' d')).setCell ⟨G,6,none⟩ (.int .i64 L)):=
   ((((((Frm.setCell we _ 0 _).trans (Frm.setCell _ _ 1 _)).trans (Frm.setCell _ _ 2 _)).trans (Frm.setCell _ _ 3 _)).trans (Frm.setCell _ _ 4 _)).trans (Frm.setCell _ _ 5 _)).trans (Frm.setCell _ _ 6 _)
  have bW:Blk (((((((we.setCell ⟨G,0,none⟩ (.int .i64 x.al)).setCell ⟨G,1,none⟩ (.int .i64 x.st)).setCell ⟨G,2,none⟩ (.slice A1 n1 c1)).setCell ⟨G,3,none⟩ (.int .i64 p.al)).setCell ⟨G,4,none⟩ (.slice B m d)).setCell ⟨G,5,none⟩ (.slice B' m' d')).setCell ⟨G,6,none⟩ (.int .i64 L)) G 98 #[.int .i64 x.al,.int .i64 x.st,.slice A1 n1 c1,.int .i64 p.al,.slice B m d,.slice B' m' d',.int .i64 L]:=by
   simpa using ((((((bG.set_ 0 (.int .i64 x.al)).set_ 1 (.int .i64 x.st)).set_ 2 (.slice A1 n1 c1)).set_ 3 (.int .i64 p.al)).set_ 4 (.slice B m d)).set_ 5 (.slice B' m' d')).set_ 6 (.int .i64 L)
  have Hf:=hide (And.intro bW (hx2.frm hf (fun k hk e=>by omega)))
  clear hf bW hx2 hxa cG fG bG
  go_wp2_with fail
  go_meet
  exact⟨G,rfl,Hf.out⟩
 case rest =>
  obtain⟨GK,rfl,bK,hx1c⟩:=hcut
  have cK:=bK.cell
  go_upto_region 6 with fail
  have hxT:=(Ext.refl wc).alloc (.cells #[.bool false,.int .i64 0,.slice none 0 0,.slice none 0 0,.int .i64 x.al,.int .i64 x.st,.slice A1 n1 c1,.int .i64 p.al,.slice B m d,.slice B' m' d',.int .i64 L] 100)
  have bT:=Blk.new wc 100 #[.bool false,.int .i64 0,.slice none 0 0,.slice none 0 0,.int .i64 x.al,.int .i64 x.st,.slice A1 n1 c1,.int .i64 p.al,.slice B m d,.slice B' m' d',.int .i64 L]
  obtain⟨GT,hGT⟩:∃ GT,Hid (wc.heap.size=GT):=⟨_,rfl⟩
  generalize wc.alloc (.cells #[.bool false,.int .i64 0,.slice none 0 0,.slice none 0 0,.int .i64 x.al,.int .i64 x.st,.slice A1 n1 c1,.int .i64 p.al,.slice B m d,.slice B' m' d',.int .i64 L] 100)=w2 at *
  rw [hGT.out] at bT ⊢
  have hx02:Ext w0 w2:=hx1.trans (hx1c.trans hxT)
  replace bK:=bK.ext hxT
  clear cK
  have hbK:=bK.lt
  have hbT:=bT.lt
  have htch2:=htch0.ext (hx0.trans hx02)
  have CTc:=bT.cells
  have CTk:=bK.cells
  have CL2:∀ W,Ext w2 W→W.cell? ⟨b,o,none⟩=some (.int .i64 x.al)∧W.cell? ⟨b,o+1,none⟩=some (.int .i64 x.st)∧W.cell? ⟨b,o+2,none⟩=some (.slice A1 n1 c1):=fun W hW=>CL W (hx0.trans (hx02.trans hW))
  have CP2:∀ W,Ext w2 W→∀ q,W.cell? ⟨w.heap.size,q,none⟩=#[Value.int .i64 p.al,.slice B m d,.slice B' m' d'][q]?:=fun W hW=>CP0 W (hx02.trans hW)
  have HNT:=hide (fun W (hW:Ext w2 W)=>zeo (c:=c1) (d:=d) (d':=d') (htch2.ext hW))
  rw [htab.out] at HNT
  have HTA:=hide (fun (R:Option Addr) (nr cr:Nat) (C:Option Addr) (nc cc:Nat) (rows cols:List ByteArray) W (hW:Ext w2 W) hT hI hcr hcc hcl=>zbk (c:=c1) (d:=d) (d':=d') (nr:=nr) (nc:=nc) (R:=R) (C:=C) (cr:=cr) (cc:=cc) (rows:=rows) (cols:=cols) (htch2.ext hW) hT hI hcr hcc hcl)
  have HLS:=hide (fun (R:Option Addr) (nr cr:Nat) (C:Option Addr) (nc cc:Nat) (rows cols:List ByteArray) (x':ByteArray) W (hW:Ext w2 W) hT hI hcr hcc hcl hx=>zdA (c:=c1) (d:=d) (d':=d') (nr:=nr) (nc:=nc) (R:=R) (C:=C) (cr:=cr) (cc:=cc) (rows:=rows) (cols:=cols) (x:=x') (htch2.ext hW) hT hI hcr hcc hcl hx)
  have HSW:=hide (fun W (hW:Ext w2 W) (y':ByteArray) hy=>by
   obtain⟨lo,hi,h1,h2,h3⟩:=htch2.at_
   exact zcN (c:=c1) (d:=d) (d':=d') (L:=L) (t:=y') (h1.ext hW) (h2.ext hW) htch2.sv htch2.pv htch2.lt (Nat.le_trans h3 hW.size) hy)
  have hww2:=Ext.refl w2
  clear CL CL1 CP1 CP0 hx1c hxT bK bT
  go_upto_region 7 with (first
   |(go_at_call 78;refine (HNT.out _ hww2).mono ?_;intro e w3 hret;obtain⟨hx3,nr,nc,R,cr,C,cc,rfl,hcr,hcc,hT3⟩:=hret.fill (w0:=w2) (Nat.le_refl _);clear hret))
  have hx36:=(Ext.refl w3).alloc (.cells #[.slice R nr cr,.slice C nc cc] 103)
  have b9:=Blk.new w3 103 #[.slice R nr cr,.slice C nc cc]
  obtain⟨G,hG⟩:∃ G,Hid (w3.heap.size=G):=⟨_,rfl⟩
  have hGw:w2.heap.size≤G:=by rw [← hG.out];exact hx3.size
  generalize w3.alloc (.cells #[.slice R nr cr,.slice C nc cc] 103)=w6 at *
  rw [hG.out] at b9 ⊢
  have hx26:=hx3.trans hx36
  have hTM:TabM w2 w6 G tab0:=⟨nr,nc,R,cr,C,cc,b9,hcr,hcc,fun rs cs e=>⟨zf (hT3 rs cs e).1 hx36,zf (hT3 rs cs e).2 hx36⟩⟩
  clear hT3 b9 hx3 hx36
  go_wp2_with fail
  go_loopw [10,11] (fun fv rv wr=>∃ (q:Option (List ByteArray × List ByteArray)) (j:Nat),fv=.bool q.isSome∧rv=.int .i64 j∧j≤12∧Hid (∀ rs cs,q=some (rs,cs)→j<rs.length)∧Hid (zcX L (zq x p L) q)∧Hid (chT x y z p L (12 - j) j q=fin)∧TabM w2 wr G q∧Ext w2 wr) (fun _ rv _=>12 - (intOf rv).toNat)
  case atStart=>exact⟨tab0,0,rfl,rfl,by omega,hrow0,htok,hfin,hTM,hx26⟩
  case round =>
   clear hTM hx26
   obtain⟨q,j,rfl,rfl,hj12,hjr,hok,hrun,hTM,hxr⟩:=hrel
   cases q with
   |none =>
    have hfn:=hide (show fin=⟨2,noA,noA,⟨#[]⟩,j⟩ by rw [← hrun.out];cases 12 - j<;>rfl)
    have hflag:(none:Option (List ByteArray × List ByteArray)).isSome=false:=rfl
    rw [hflag]
    clear hTM hok hjr hrun hflag
    have bZ:=b2.ext (hx02.trans hxr)
    have kZ:=bZ.cell
    have fZ:=bZ.frozen
    have F2:=hide (zgw bZ rfl (.int .i64 2) (.int .i64 0) (.slice none 0 0) (.slice none 0 0) (.int .i64 0) (.slice none 0 0) (.slice none 0 0) (.string ⟨#[]⟩) (.int .i64 j))
    have F1:=hide (zfr.cast hfn.out (zfU (v:=⟨2,noA,noA,⟨#[]⟩,j⟩) (hx0.trans (hx02.trans hxr)) bZ rfl (by omega) (zdc wr _) (zdc wr _)))
    clear bZ
    go_wp2_with fail
    have cf2:=F2.out.cell
    simp only [noA] at F1
    exact bodyPost_ret (v:=.agg #[.int .i64 2,.int .i64 0,.slice none 0 0,.slice none 0 0,.int .i64 0,.slice none 0 0,.slice none 0 0,.string ⟨#[]⟩,.int .i64 j]) (by simp [results,Tryz.results38,go_sem,cf2]) rfl F1.out
   |some tab =>
    obtain⟨rs,cs⟩:=tab
    obtain⟨hI,hcl⟩:=hok.out rs cs rfl
    have hj:j<12:=by have:=hjr.out rs cs rfl;have:=hI.r12;omega
    have hjl:=hide (hjr.out rs cs rfl)
    have hflag:(some (rs,cs)).isSome=true:=rfl
    rw [hflag]
    obtain⟨nr,nc,R,cr,C,cc,b9,hcr,hcc,hTT⟩:=hTM
    obtain⟨oR,oC⟩:=hTT rs cs rfl
    have HTat:=hide (show TabAt wr R nr C nc rs cs from ⟨_,_,_,_,Reads.of_own oR,Reads.of_own oC⟩)
    have k9:=b9.cell
    have cTc:=CTc wr hxr
    have hI':=hide hI
    have hcl':=hide hcl
    have hva:=hide (zcr hI hcl htch2.lt)
    clear hI hcl hTT hflag hok hjr
    go_upto_region 11 with (first
     |(go_at_call 79;refine (HTA.out _ _ _ _ _ _ rs cs _ hxr HTat.out hI'.out hcr hcc hcl'.out).mono ?_;rintro e wB ⟨Y,q1,e1,Y',q1',e1',rfl,hownA,hxB⟩))
    obtain⟨aut,haut⟩:∃ aut,Hid (autT L (zq x p L) rs cs=aut):=⟨_,rfl⟩
    rw [haut.out] at hownA hva ⊢
    have hxC:=(Ext.refl wB).alloc (.cells #[.int .i64 aut.al,.slice Y q1 e1,.slice Y' q1' e1'] 27)
    have b12:=Blk.new wB 27 #[.int .i64 aut.al,.slice Y q1 e1,.slice Y' q1' e1']
    have hownC:=hownA.ext hxC
    have hsB:=hide (hxr.trans hxB).size
    have hsA:=hide hxr.size
    have hsA2:=hide hxB.size
    obtain⟨GA,hGA⟩:∃ GA,Hid (wB.heap.size=GA):=⟨_,rfl⟩
    generalize wB.alloc (.cells #[.int .i64 aut.al,.slice Y q1 e1,.slice Y' q1' e1'] 27)=wC at *
    rw [hGA.out] at b12 ⊢
    have hxBC:=hxB.trans hxC
    have b9C:=b9.ext hxBC
    have oRC:=zf oR hxBC
    have oCC:=zf oC hxBC
    have hx2C:=hxr.trans hxBC
    have hua:=zdT Hv.out.1 hva.out Hv.out.2.2.2
    have huw:=hide hua.1
    have hus:=hide hua.2
    have hrunJ:=hide (show (if (zbW x y z p L aut).2.1=0 then (⟨0,aut,(zbW x y z p L aut).2.2,⟨#[]⟩,j+1⟩:Vc) else if (zbW x y z p L aut).2.1=2 then ⟨2,noA,noA,⟨#[]⟩,j+1⟩ else if (zbW x y z p L aut).2.1=1 then ⟨1,noA,noA,zat [x,y,z] p,j+1⟩ else chT x y z p L (12 - (j+1)) (j+1) (zbv L (zq x p L) rs cs (zbW x y z p L aut).1))=fin by
     rw [← hrun.out,show 12 - j=(12 - (j+1))+1 by omega]
     show _=chT x y z p L ((12 - (j+1))+1) j (some (rs,cs))
     rw [chT,haut.out])
    have Hj:=hide (show zbW x y z p L aut=if zbc x aut p=true then (zaY (zbd x aut p) L,-1,noA)
     else if (vpT y z aut).code=0 then (⟨#[]⟩,0,(vpT y z aut).asm)
     else if (vpT y z aut).code=2 then (⟨#[]⟩,2,noA)
     else (zaY (vpT y z aut).tr L,if zq x p L (zaY (vpT y z aut).tr L)=true then -1 else 1,noA) from rfl)
    have HVUa:=hide (HVU.out wC.drew (hx0.trans (hx02.trans hx2C.drew)) aut Y q1 e1 Y' q1' e1' _ _ (hownC.ext ((Ext.refl wC).drew)).reads)
    obtain⟨uw,huwe⟩:∃ uw,Hid (zbd x aut p=uw):=⟨_,rfl⟩
    rw [huwe.out] at huw hus HVUa Hj
    have hrw:=hide (zaU (zbf (zel huw.out L)))
    generalize zbW x y z p L aut=J at *
    have CPw:∀ W,Ext wC W→∀ q,W.cell? ⟨w.heap.size,q,none⟩=#[Value.int .i64 p.al,.slice B m d,.slice B' m' d'][q]?:=fun W hW=>CP2 W (hx2C.trans hW)
    have CLw:∀ W,Ext wC W→W.cell? ⟨b,o,none⟩=some (.int .i64 x.al)∧W.cell? ⟨b,o+1,none⟩=some (.int .i64 x.st)∧W.cell? ⟨b,o+2,none⟩=some (.slice A1 n1 c1):=fun W hW=>CL2 W (hx2C.trans hW)
    have C12:=b12.cells
    have hwwC:=Ext.refl wC
    clear hrun b9 oR oC hownA k9 cTc HTat hua hxC hxB hxBC hxr
    cases hub:zbc x aut p
    ·rw [hub] at HVUa Hj
     clear hub
     have Hj2:=hide (show J=if (vpT y z aut).code=0 then (⟨#[]⟩,0,(vpT y z aut).asm) else if (vpT y z aut).code=2 then (⟨#[]⟩,2,noA) else (zaY (vpT y z aut).tr L,if zq x p L (zaY (vpT y z aut).tr L)=true then -1 else 1,noA) by rw [Hj.out];rfl)
     have hvw:=hide (vpT_word Hv.out.2.1 Hv.out.2.2.1 hva.out)
     refine uR (fun X=>Ext wC X) [5] (OrdU.of [0,1,2,3,4,5,6,7,8,9,10]) ?_
     refine uQ ?_
     (refine za rfl rfl rfl rfl (fun K hK=>?_))
     go_simp
     refine HVUa.out.mono ?_
     rintro e wD ⟨rfl,hxD0⟩
     have hxD:=hwwC.drew.trans hxD0
     clear hxD0
     refine hK.out _ _ ?_
     refine pT ?_
     refine uQ ?_
     refine zd ?_
     have hRW:=hide (zaE (s:=uw) (a:=L) (w:=wD) huw.out (by omega))
     have HJd:=hide (fun W (hW:Ext wC W)=>HJ.out W (hx0.trans (hx02.trans (hx2C.trans hW))) aut Y q1 e1 Y' q1' e1' _ _ (hownC.ext hW).reads hva.out)
     generalize vpT y z aut=v at *
     have CTkC:∀ W,Ext wC W→∀ q,W.cell? ⟨GK,q,none⟩=#[Value.int .i64 x.al,.int .i64 x.st,.slice A1 n1 c1,.int .i64 p.al,.slice B m d,.slice B' m' d',.int .i64 L][q]?:=fun W hW=>CTk W (hx2C.trans hW)
     go_upto_region 15 with (first
      |(go_at_call 81;refine hRW.out.mono ?_;rintro e wE0 ⟨rfl,hxE0⟩;replace hxD:=hxD.trans hxE0)
      |(go_at_call 82;refine (HJd.out _ hxD).mono ?_;rintro e wJ ⟨Z1,z1,y1,Z2,z2,y2,rfl,hoV,hxJ⟩))
     have hxV:=(Ext.refl wJ).alloc (.cells #[.int .i64 v.code,.int .i64 v.asm.al,.slice Z1 z1 y1,.slice Z2 z2 y2,.string v.tr,.int .i64 v.ro] 109)
     have b17:=Blk.new wJ 109 #[.int .i64 v.code,.int .i64 v.asm.al,.slice Z1 z1 y1,.slice Z2 z2 y2,.string v.tr,.int .i64 v.ro]
     obtain⟨GV,hGV⟩:∃ GV,Hid (wJ.heap.size=GV):=⟨_,rfl⟩
     have hxE:Ext w2 (wJ.alloc (.cells #[.int .i64 v.code,.int .i64 v.asm.al,.slice Z1 z1 y1,.slice Z2 z2 y2,.string v.tr,.int .i64 v.ro] 109)):=hx2C.trans (hxD.trans (hxJ.trans hxV))
     have hxCE:Ext wC (wJ.alloc (.cells #[.int .i64 v.code,.int .i64 v.asm.al,.slice Z1 z1 y1,.slice Z2 z2 y2,.string v.tr,.int .i64 v.ro] 109)):=hxD.trans (hxJ.trans hxV)
     have hownE:=hownC.ext hxCE
     have hoVE:=hoV.ext hxV
     have hsV:=(hx0.trans (hx02.trans (hx2C.trans hxD))).size
     have b9E:=b9C.ext hxCE
     have oRE:=zf oRC hxCE
     have oCE:=zf oCC hxCE
     generalize wJ.alloc (.cells #[.int .i64 v.code,.int .i64 v.asm.al,.slice Z1 z1 y1,.slice Z2 z2 y2,.string v.tr,.int .i64 v.ro] 109)=wE at *
     rw [hGV.out] at b17 ⊢
     have k17:=b17.cell
     have C12E:=C12 wE hxCE
     clear hwwC C12 CPw CLw hxV hoV hxJ hxD b9C oRC oCC hownC HVUa hRW HJd
     by_cases hv0:v.code=0
     ·have hfn:=hide (show fin=⟨0,aut,v.asm,⟨#[]⟩,j+1⟩ by rw [← hrunJ.out,Hj2.out,if_pos hv0];rfl)
      have e0:(v.code==0)=true:=by simpa using hv0
      clear hrunJ Hj2 Hj b9E oRE oCE hv0
      have bZ:=b2.ext (hx02.trans hxE)
      have kZ:=bZ.cell
      have fZ:=bZ.frozen
      have F2:=hide (zgw bZ rfl (.int .i64 0) (.int .i64 aut.al) (.slice Y q1 e1) (.slice Y' q1' e1') (.int .i64 v.asm.al) (.slice Z1 z1 y1) (.slice Z2 z2 y2) (.string ⟨#[]⟩) (.int .i64 ((j:Int)+1)))
      have F1:=hide (zfr.cast hfn.out (zfU (v:=⟨0,aut,v.asm,⟨#[]⟩,j+1⟩) (hx0.trans (hx02.trans hxE)) bZ rfl (by omega) (hownE.less (by have:=hx0.size;have:=hx02.size;have:=hsA.out;omega)) (hoVE.less (by omega))))
      clear bZ
      go_wp2_with fail
      have cf2:=F2.out.cell
      simp only [Int.natCast_add,Int.cast_ofNat_Int] at F1
      exact bodyPost_ret (v:=.agg #[.int .i64 0,.int .i64 aut.al,.slice Y q1 e1,.slice Y' q1' e1',.int .i64 v.asm.al,.slice Z1 z1 y1,.slice Z2 z2 y2,.string ⟨#[]⟩,.int .i64 ((j:Int)+1)]) (by simp [results,Tryz.results38,go_sem,cf2]) rfl F1.out
     ·by_cases hv2:v.code=2
      ·have hfn:=hide (show fin=⟨2,noA,noA,⟨#[]⟩,j+1⟩ by rw [← hrunJ.out,Hj2.out,if_neg hv0,if_pos hv2];rfl)
       have e0:(v.code==0)=false:=by simpa using hv0
       have e2:(v.code==2)=true:=by simpa using hv2
       clear hrunJ Hj2 Hj b9E oRE oCE hv0 hv2 hownE hoVE
       have bZ:=b2.ext (hx02.trans hxE)
       have kZ:=bZ.cell
       have fZ:=bZ.frozen
       have F2:=hide (zgw bZ rfl (.int .i64 2) (.int .i64 0) (.slice none 0 0) (.slice none 0 0) (.int .i64 0) (.slice none 0 0) (.slice none 0 0) (.string ⟨#[]⟩) (.int .i64 ((j:Int)+1)))
       have F1:=hide (zfr.cast hfn.out (zfU (v:=⟨2,noA,noA,⟨#[]⟩,j+1⟩) (hx0.trans (hx02.trans hxE)) bZ rfl (by omega) (zdc wE _) (zdc wE _)))
       clear bZ
       go_wp2_with fail
       have cf2:=F2.out.cell
       simp only [noA,Int.natCast_add,Int.cast_ofNat_Int] at F1
       exact bodyPost_ret (v:=.agg #[.int .i64 2,.int .i64 0,.slice none 0 0,.slice none 0 0,.int .i64 0,.slice none 0 0,.slice none 0 0,.string ⟨#[]⟩,.int .i64 ((j:Int)+1)]) (by simp [results,Tryz.results38,go_sem,cf2]) rfl F1.out
      ·have e0:(v.code==0)=false:=by simpa using hv0
       have e2:(v.code==2)=false:=by simpa using hv2
       have hrs:=hide (zaU (zbf (zel hvw.out L)))
       have cTk:=CTkC wE hxCE
       obtain⟨sf,hsf⟩:∃ sf,Hid (zq x p L (zaY v.tr L)=sf):=⟨_,rfl⟩
       have HSf:=hide (HSW.out wE hxE (zaY v.tr L) (by have:=hrs.out;omega))
       rw [hsf.out] at HSf
       have hJ3:=hide (show J=(zaY v.tr L,if sf=true then -1 else 1,noA) by rw [Hj2.out,if_neg hv0,if_neg hv2,hsf.out])
       generalize zaY v.tr L=rw_ at *
       clear Hj2 Hj hv0 hv2 hownE hoVE
       cases sf
       ·have hfn:=hide (show fin=⟨1,noA,noA,zat [x,y,z] p,j+1⟩ by rw [← hrunJ.out,hJ3.out];rfl)
        clear hrunJ b9E oRE oCE
        go_upto_region 21 with (first
         |(go_at_call 83;refine HSf.out.mono ?_;rintro e wF ⟨rfl,hxF⟩))
        have hxEF:=hxE.trans hxF
        have cP:=CP2 wF hxEF
        have HFf:=hide (HFl.out wF (hx0.trans (hx02.trans hxEF)) ((j:Int)+1))
        clear cTk k17 C12E HSf
        generalize zat [x,y,z] p=bw at *
        have hfin2:=hide (fun W (hW:Ext wF W)=>show Blk W Z 63 #[.int .i64 0,.int .i64 0,.slice none 0 0,.slice none 0 0,.int .i64 0,.slice none 0 0,.slice none 0 0,.string ⟨#[]⟩,.int .i64 0] from b2.ext (hx02.trans (hxEF.trans hW)))
        go_wp2_with (first
         |(go_at_call 84;refine HFf.out.mono ?_;rintro e wG ⟨rfl,hxG⟩;have kZ:=(hfin2.out wG hxG).cell;have fZ:=(hfin2.out wG hxG).frozen))
        have bZ:=hfin2.out wG hxG
        have F2:=zgw bZ rfl (.int .i64 1) (.int .i64 0) (.slice none 0 0) (.slice none 0 0) (.int .i64 0) (.slice none 0 0) (.slice none 0 0) (.string bw) (.int .i64 ((j:Int)+1))
        have F1:=zfr.cast hfn.out (zfU (v:=⟨1,noA,noA,bw,j+1⟩) (hx0.trans (hx02.trans (hxEF.trans hxG))) bZ rfl (by omega) (zdc wG _) (zdc wG _))
        have cf2:=F2.cell
        simp only [noA,Int.natCast_add,Int.cast_ofNat_Int] at F1
        exact bodyPost_ret (v:=.agg #[.int .i64 1,.int .i64 0,.slice none 0 0,.slice none 0 0,.int .i64 0,.slice none 0 0,.slice none 0 0,.string bw,.int .i64 ((j:Int)+1)]) (by simp [results,Tryz.results38,go_sem,cf2]) rfl F1
       ·have hrunL:=hide (show chT x y z p L (12 - (j+1)) (j+1) (zbv L (zq x p L) rs cs rw_)=fin by
         have:=hrunJ.out
         rw [hJ3.out] at this
         exact this)
        clear hrunJ hJ3
        go_upto_region 22 with (first
         |(go_at_call 83;refine HSf.out.mono ?_;rintro e wF ⟨rfl,hxF⟩))
        replace hxE:=hxE.trans hxF
        replace b9E:=b9E.ext hxF
        replace oRE:=zf oRE hxF
        replace oCE:=zf oCE hxF
        clear cTk k17 C12E HSf hxCE b17
        obtain⟨wE,hwE⟩:∃ wE,wE=wF:=⟨_,rfl⟩
        subst hwE
        have hokL:=hide (zcX.learn hI'.out rw_)
        have hmore:=hide (fun rs' cs' (e:zbv L (zq x p L) rs cs rw_=some (rs',cs'))=>(zfA hI'.out hcl'.out e).1)
        have cTc:=CTc wE hxE
        have k9:=b9E.cell
        have HTatE:=hide (show TabAt wE R nr C nc rs cs from ⟨_,_,_,_,Reads.of_own oRE,Reads.of_own oCE⟩)
        go_upto_region 24 with (first
         |(go_at_call 85;refine (HLS.out _ _ _ _ _ _ rs cs rw_ _ hxE HTatE.out hI'.out hcr hcc hcl'.out (by have:=hrs.out;omega)).mono ?_;intro e wF hret;obtain⟨hxF,nr2,nc2,R2,cr2,C2,cc2,rfl,hcr2,hcc2,hT2⟩:=hret.fill (w0:=w2) hxE.size;clear hret))
        exact yH12a1
    ·rw [hub] at HVUa Hj
     clear hub
     have hrunL:=hide (show chT x y z p L (12 - (j+1)) (j+1) (zbv L (zq x p L) rs cs (zaY uw L))=fin by
      have:=hrunJ.out
      rw [Hj.out] at this
      exact this)
     clear hrunJ
     refine uR (fun X=>Ext wC X) [5] (OrdU.of [0,1,2,3,4,5,6,7,8,9,10]) ?_
     refine uQ ?_
     (refine za rfl rfl rfl rfl (fun K hK=>?_))
     go_simp
     refine HVUa.out.mono ?_
     rintro e wD ⟨rfl,hxD0⟩
     have hxD:=hwwC.drew.trans hxD0
     clear hxD0
     refine hK.out _ _ ?_
     refine pT ?_
     refine uQ ?_
     refine zd ?_
     have hRW:=hide (zaE (s:=uw) (a:=L) (w:=wD) huw.out (by omega))
     generalize zaY uw L=rw_ at *
     go_upto_region 23 with (first
      |(go_at_call 81;refine hRW.out.mono ?_;rintro e wE ⟨rfl,hxE0⟩))
     have hxCE:=hxD.trans hxE0
     have hxE:=hx2C.trans hxCE
     have b9E:=b9C.ext hxCE
     have oRE:=zf oRC hxCE
     have oCE:=zf oCC hxCE
     clear hwwC C12 CPw CLw hxD hxE0 b9C oRC oCC hownC HVUa hRW b12 hxCE
     have hokL:=hide (zcX.learn hI'.out rw_)
     have hmore:=hide (fun rs' cs' (e:zbv L (zq x p L) rs cs rw_=some (rs',cs'))=>(zfA hI'.out hcl'.out e).1)
     have cTc:=CTc wE hxE
     have k9:=b9E.cell
     have HTatE:=hide (show TabAt wE R nr C nc rs cs from ⟨_,_,_,_,Reads.of_own oRE,Reads.of_own oCE⟩)
     go_upto_region 24 with (first
      |(go_at_call 85;refine (HLS.out _ _ _ _ _ _ rs cs rw_ _ hxE HTatE.out hI'.out hcr hcc hcl'.out (by have:=hrw.out;omega)).mono ?_;intro e wF hret;obtain⟨hxF,nr2,nc2,R2,cr2,C2,cc2,rfl,hcr2,hcc2,hT2⟩:=hret.fill (w0:=w2) hxE.size;clear hret))
     exact yH12a1
end
end Go.Proofs.YtndhahednhnnbaaGreatDoor
