/- The words th -/
import Derived.Test.YtfcjhpodichpjaaGreatDoorU06
import Derived.Test.YtfcjhpodichpjaaGreatDoorU05
import Derived.Test.YtfcjhpodichpjaaGreatDoorU02
import Derived.Test.YtfcjhpodichpjaaGreatDoorU01
import Derived.Test.YtfcjhpodichpjaaGreatDoorU09
import Derived.Test.YtfcjhpodichpjaaGreatDoorU03
set_option maxHeartbeats 4000000
set_option maxRecDepth 100000
namespace Go.Proofs.YtfcjhpodichpjaaGreatDoor
open Go Go.RowKit
section
variable {d:Nat→Nat→List Nat} {start L:List Nat} {goal:Nat→Bool} {N:Nat}
theorem zgh (h:¬ Lost d start goal L):∃ v,Found d start goal L v:=by
 have h1:∃ v,(∀ l∈v,l∈L)∧∃ x,zdd d start v x∧goal x=true:=by
  apply Classical.byContradiction
  intro hn
  apply h
  intro v hv x hx
  cases hg:goal x with
  |false=>rfl
  |true=>exact absurd ⟨v,hv,x,hx,hg⟩ hn
 have key:∀ n v,zdF v=n→(∀ l∈v,l∈L)→(∃ x,zdd d start v x∧goal x=true)→∃ v,Found d start goal L v:=by
  intro n
  induction n using Nat.strongRecOn with
  |ind n ih =>
   intro v hn hv hx
   by_cases hm:∃ u,(∀ l∈u,l∈L)∧zdF u<zdF v∧∃ x,zdd d start u x∧goal x=true
   ·obtain⟨u,hu,hlt,hux⟩:=hm
    exact ih (zdF u) (by omega) u rfl hu hux
   ·refine⟨v,hv,hx,fun u hu hlt x hgx=>?_⟩
    cases hg:goal x with
    |false=>rfl
    |true=>exact absurd ⟨u,hu,hlt,x,hgx,hg⟩ hm
 obtain⟨v,hv,hx⟩:=h1
 exact key _ v rfl hv hx
theorem found_len {v:List Nat}(h:Found d [0] goal L v)(h6:∀ l∈L,l<6)(hN:0<N)(hd:∀ x l,x<N→l∈L→∀ y∈d x l,y<N):v.length<N:=by
 obtain⟨hv,⟨x,hx,hg⟩,hmin⟩:=h
 obtain⟨x0,h0,hdn⟩:=zdd.dn (L:=L) (v:=[]) (u:=v) (goal:=goal) (by simpa using hx) hg hv
 have hx0:x0=0:=by have:=h0.inv_nil;simpa using this
 subst hx0
 have hex:∃ n,Mn d L goal n 0∧n≤v.length:=by
  have key:∀ n,Dn d L goal n 0→∃ m,Mn d L goal m 0∧m≤n:=by
   intro n
   induction n using Nat.strongRecOn with
   |ind n ih =>
    intro hn
    by_cases hm:∃ m,m<n∧Dn d L goal m 0
    ·obtain⟨m,hmn,hm⟩:=hm
     obtain⟨k,h1,h2⟩:=ih m hmn hm
     exact⟨k,h1,by omega⟩
    ·exact⟨n,⟨hn,fun m hmn hm'=>hm ⟨m,hmn,hm'⟩⟩,Nat.le_refl _⟩
  exact key _ hdn
 obtain⟨n,hn,-⟩:=hex
 have hnN:=hn.lt hN hd
 obtain⟨u,hul,huL,y,hy,hgy⟩:=Dn.word (v:=[]) (start:=[0]) hn.1 (.nil (by simp))
 rcases Nat.lt_or_ge n v.length with hlt|hge
 ·have:=hmin u huL (zga (fun l hl=>h6 l (hv l hl)) (fun l hl=>h6 l (huL l hl)) (by omega)) y (by simpa using hy)
  rw [hgy] at this;cases this
 ·omega
theorem firstW_ok (h6:∀ l∈L,l<6)(hN:0<N)(hd:∀ x l,x<N→l∈L→∀ y∈d x l,y<N):(∀ l∈zeI d [0] goal L,l<6)∧(zeI d [0] goal L).length<N:=by
 by_cases h:Lost d [0] goal L
 ·rw [(zgC h).1]
  exact⟨by simp,by simpa using hN⟩
 ·obtain⟨v,hv⟩:=zgh h
  rw [(zfx h6 hv).1]
  exact⟨fun l hl=>h6 l (hv.1 l hl),found_len hv h6 hN hd⟩
end
theorem wstr_word {v:List Nat}(h6:∀ l∈v,l<6)(hl:v.length≤50000):zaO (wstr v)=true:=by
 unfold zaO
 simp only [Bool.and_eq_true,decide_eq_true_eq]
 refine⟨by rw [zfZ];exact hl,?_⟩
 rw [List.all_eq_true]
 intro b hb
 unfold wstr lbs at hb
 rw [strOfNums_data,List.map_map] at hb
 obtain⟨l,hl,rfl⟩:=List.mem_map.1 hb
 have hl6:=h6 l hl
 have key:∀ l,l<6→zbC (UInt8.ofNat (97+l))=true:=by decide
 have e:((fun n:Int=>UInt8.ofNat n.toNat) ∘ fun l:Nat=>((97+l:Nat):Int)) l=UInt8.ofNat (97+l):=by
  show UInt8.ofNat (((97+l:Nat):Int)).toNat=_
  rw [Int.toNat_natCast]
 first
  |(rw [e];exact key l hl6)
  |(have:=key l hl6;simpa using this)
theorem vioW_word {ss:List Sys} {a p:Aut}(hss:∀ s∈ss,zr s=true)(ha:zh a=true)(hp:zh p=true)(hN:zak (zaS ss [a,p])≤50000):zaO (vioW ss a p)=true∧(vioW ss a p).size<zak (zaS ss [a,p]):=by
 have hm:∀ m∈zaS ss [a,p],MemOk m:=by
  intro m hm
  unfold zaS at hm
  rcases List.mem_append.1 hm with h|h
  ·obtain⟨s,hs,rfl⟩:=List.mem_map.1 h
   exact sMem_ok (zcS (hss s hs))
  ·simp at h
   rcases h with rfl|rfl
   ·exact aMem_ok ha
   ·exact aMem_ok hp
 obtain⟨h1,h2⟩:=firstW_ok (d:=brkD ss a p) (goal:=brkG a p) (L:=letters (zaz ss|||a.al.toNat) 6) (N:=zak (zaS ss [a,p])) (fun l hl=>(zX.1 hl).1) (prodN_pos hm) (fun x l _ hl y hy=>by
  rw [zgV] at hy
  exact pnx_lt hm (zX.1 hl).1 y hy)
 unfold vioW
 exact⟨wstr_word h1 (by omega),by rw [zfZ];exact h2⟩
theorem prod_le {ss:List Sys} {a p:Aut}(hss:∀ s∈ss,zr s=true):zak (zaS ss [a,p])≤16 ^ ss.length*(a.next.length*p.next.length):=by
 induction ss with
 |nil=>simp [zaS,zak,zap,zeV]
 |cons s r ih =>
  have h1:=ih (fun s hs=>hss s (List.mem_cons_of_mem _ hs))
  have h2:s.st.toNat≤16:=by have:=(zcS (hss s List.mem_cons_self)).2.1;omega
  show zak (sMem s :: zaS r [a,p])≤_
  rw [zdj,List.length_cons,Nat.pow_succ]
  calc s.st.toNat*zak (zaS r [a,p])≤16*(16 ^ r.length*(a.next.length*p.next.length)):=Nat.mul_le_mul h2 h1
   _=16 ^ r.length*16*(a.next.length*p.next.length):=by rw [← Nat.mul_assoc,Nat.mul_comm 16]
theorem zfX {s:Sys} {a p:Aut}(hs:zr s=true)(ha:zh a=true)(hp:zh p=true):zaO (zda s a p)=true∧(zda s a p).size≤2304:=by
 have h1:=(zx ha).2.1.2
 have h2:=(zx hp).2.1.2
 have h3:=prod_le (ss:=[s]) (a:=a) (p:=p) (by simpa using hs)
 have h4:a.next.length*p.next.length≤12*12:=Nat.mul_le_mul h1 h2
 simp only [List.length_singleton,Nat.pow_one] at h3
 obtain⟨h5,h6⟩:=vioW_word (ss:=[s]) (by simpa using hs) ha hp (by omega)
 unfold zda
 rw [if_pos (by unfold zfW;rw [hs,ha,hp];rfl)]
 exact⟨h5,by omega⟩
theorem zev {ss:List Sys} {p:Aut}(hss:zU ss=true)(hp:zh p=true):zaO (zbe ss p)=true∧(zbe ss p).size<16 ^ ss.length*12:=by
 obtain⟨⟨h0,h03⟩,hv⟩:=zbM hss
 have h2:=(zx hp).2.1.2
 have h3:=prod_le (a:=free) (p:=p) hv
 have h4:free.next.length*p.next.length≤1*12:=Nat.mul_le_mul (Nat.le_refl _) h2
 have h5:zak (zaS ss [free,p])≤16 ^ ss.length*12:=Nat.le_trans h3 (Nat.mul_le_mul_left _ (by omega))
 have h6:16 ^ ss.length≤16 ^ 3:=Nat.pow_le_pow_right (by omega) h03
 have h7:16 ^ ss.length*12≤4096*12:=Nat.mul_le_mul_right _ h6
 obtain⟨h8,h9⟩:=vioW_word hv free_valid hp (by omega)
 unfold zbe
 rw [if_pos (by unfold zgD;rw [hss,hp];rfl)]
 exact⟨h8,by omega⟩
noncomputable def zdz (s:Sys) (p:Aut) (t:Sys) (L:Nat) (a:Aut):ByteArray × Int:=
 if zeQ s a p=true then (zbN (zda s a p) L,-1)
 else if zeW [t] a=true then (zbN (zbe [t] a) L,if zu s p L (zbN (zbe [t] a) L)=true then -1 else 1)
 else (⟨#[]⟩,0)
section
variable {w:World} {lo hi n c lo1 hi1 m d m' d' lo2 hi2 k c2 k1 d1 k1' d1' L:Nat} {A B B' C X X':Option Addr} {s t:Sys} {p a:Aut}
theorem zdP (ht:zah w lo hi C k t)(ha:zM w lo1 hi1 X k1 X' k1' a) :
  Calls Tryz.prog 232 #[.agg #[.int .i64 t.al,.int .i64 t.st,.slice C k c2],.agg #[.int .i64 a.al,.slice X k1 d1,.slice X' k1' d1']] w fun e w'=>e=.returned (.tuple #[.string (zbe [t] a),.bool (zeW [t] a)])∧Ext w w':=by
 have HT:=za (fun W (hW:Ext w W)=>ht.ext hW)
 have HA:=za (fun W (hW:Ext w W)=>ha.ext hW)
 have hx0:Ext w ((w.alloc (.cells #[.int .i64 t.al,.int .i64 t.st,.slice C k c2] 39)).alloc (.cells #[.int .i64 a.al,.slice X k1 d1,.slice X' k1' d1'] 26)):=((Ext.refl _).alloc _).alloc _
 obtain⟨b1,b2⟩:=zR (Ext.refl ((w.alloc (.cells #[.int .i64 t.al,.int .i64 t.st,.slice C k c2] 39)).alloc (.cells #[.int .i64 a.al,.slice X k1 d1,.slice X' k1' d1'] 26)))
 clear ht ha
 go_enter Tryz.func232,Tryz.ntmps232
 go_upto_region 1 with fail
 generalize (w.alloc (.cells #[.int .i64 t.al,.int .i64 t.st,.slice C k c2] 39)).alloc (.cells #[.int .i64 a.al,.slice X k1 d1,.slice X' k1' d1'] 26)=w0 at *
 have c1:=b1.cell
 have hx1:=(Ext.refl w0).alloc (.cells #[.int .i64 t.al,.int .i64 t.st,.slice C k c2] 39)
 have bs:=Blk.new w0 39 #[.int .i64 t.al,.int .i64 t.st,.slice C k c2]
 obtain⟨lo3,hi3,hsl⟩:=sl_one bs (HT.out _ (hx0.trans hx1))
 have c2':=(b2.ext hx1).cell
 have HP:=za (zbP (c:=1) (d2:=d1) (d2':=d1') hsl (HA.out _ (hx0.trans hx1)))
 clear hsl bs
 go_wp2_with fail
 refine HP.out.mono ?_
 rintro e w2 ⟨rfl,hx2⟩
 go_wp2_with fail
 go_ret2
 exact⟨rfl,(hx0.trans hx1).trans hx2⟩
theorem zhs (h:Tch w A n B m B' m' s p L)(ht:zah w lo hi C k t)(ha:zM w lo1 hi1 X k1 X' k1' a) (vt:zr t=true) (va:zh a=true) :
  Calls Tryz.prog 194 #[.agg #[.int .i64 t.al,.int .i64 t.st,.slice C k c2],.agg #[.int .i64 s.al,.int .i64 s.st,.slice A n c,.int .i64 p.al,.slice B m d,.slice B' m' d',.int .i64 L],.agg #[.int .i64 a.al,.slice X k1 d1,.slice X' k1' d1']] w fun e w'=>e=.returned (.tuple #[.string (zdz s p t L a).1,.int .i64 (zdz s p t L a).2])∧Ext w w':=by
 have hL:=h.lt
 have HU:=za (fun W (hW:Ext w W)=>by
  obtain⟨lo,hi,h1,h2,_⟩:=h.at_
  exact zdS (c:=c) (d1:=d1) (d1':=d1') (d2:=d) (d2':=d') (h1.ext hW) (ha.ext hW) (h2.ext hW))
 have HS:=za (fun W (hW:Ext w W) (y:ByteArray) hy=>by
  obtain⟨lo,hi,h1,h2,h3⟩:=h.at_
  exact zen (c:=c) (d:=d) (d':=d') (L:=L) (t:=y) (h1.ext hW) (h2.ext hW) h.sv h.pv h.lt (Nat.le_trans h3 hW.size) hy)
 have HF:=za (fun W (hW:Ext w W)=>zdP (c2:=c2) (d1:=d1) (d1':=d1') (ht.ext hW) (ha.ext hW))
 have hu:=za (zfX h.sv va h.pv)
 have hb:=za (zev (ss:=[t]) (p:=a) (by unfold zU;simp [vt]) va)
 have Hj:=za (show zdz s p t L a=if zeQ s a p=true then (zbN (zda s a p) L,-1)
  else if zeW [t] a=true then (zbN (zbe [t] a) L,if zu s p L (zbN (zbe [t] a) L)=true then -1 else 1)
  else (⟨#[]⟩,0) from rfl)
 generalize zdz s p t L a=J at *
 obtain⟨uw,huw⟩:∃ uw,Hid (zda s a p=uw):=⟨_,rfl⟩
 obtain⟨bw,hbw⟩:∃ bw,Hid (zbe [t] a=bw):=⟨_,rfl⟩
 rw [huw.out] at HU hu Hj
 rw [hbw.out] at HF hb Hj
 have hx0:Ext w (((w.alloc (.cells #[.int .i64 t.al,.int .i64 t.st,.slice C k c2] 39)).alloc (.cells #[.int .i64 s.al,.int .i64 s.st,.slice A n c,.int .i64 p.al,.slice B m d,.slice B' m' d',.int .i64 L] 199)).alloc (.cells #[.int .i64 a.al,.slice X k1 d1,.slice X' k1' d1'] 26)):=(((Ext.refl _).alloc _).alloc _).alloc _
 obtain⟨b1,b2,b3⟩:=zV (Ext.refl (((w.alloc (.cells #[.int .i64 t.al,.int .i64 t.st,.slice C k c2] 39)).alloc (.cells #[.int .i64 s.al,.int .i64 s.st,.slice A n c,.int .i64 p.al,.slice B m d,.slice B' m' d',.int .i64 L] 199)).alloc (.cells #[.int .i64 a.al,.slice X k1 d1,.slice X' k1' d1'] 26)))
 clear h ht ha vt va
 cases hub:zeQ s a p
 ·cases hbb:zeW [t] a
  ·have zhM:=za (show J=(⟨#[]⟩,0) by rw [Hj.out,hub,hbb];rfl)
   rw [hub] at HU
   rw [hbb] at HF
   rw [zhM.out]
   clear Hj zhM hub hbb
   go_enter Tryz.func194,Tryz.ntmps194
   go_upto_region 1 with fail
   generalize ((w.alloc (.cells #[.int .i64 t.al,.int .i64 t.st,.slice C k c2] 39)).alloc (.cells #[.int .i64 s.al,.int .i64 s.st,.slice A n c,.int .i64 p.al,.slice B m d,.slice B' m' d',.int .i64 L] 199)).alloc (.cells #[.int .i64 a.al,.slice X k1 d1,.slice X' k1' d1'] 26)=w0 at *
   have CT:=b1.cells
   have CK:=b2.cells
   have CA:=b3.cells
   have hww:=Ext.refl w0
   go_wp2_with (first
    |(go_at_call 144;refine (HU.out _ hx0).mono ?_;rintro e w1 ⟨rfl,hx1⟩)
    |(go_at_call 232;refine (HF.out _ (hx0.trans hx1)).mono ?_;rintro e w2 ⟨rfl,hx2⟩;have hx12:=hx1.trans hx2))
   go_ret2
   exact⟨rfl,hx0.trans hx12⟩
  ·obtain⟨rw_,hrw⟩:∃ rw_,Hid (zbN bw L=rw_):=⟨_,rfl⟩
   have HR:=za (fun W=>zbs (w:=W) (s:=bw) (a:=L) hb.out.1 (by omega))
   have hrs:=za (show rw_.size≤9223372036854775807 by
    rw [← hrw.out]
    have h1:=zaT (zbi (zhi hb.out.1 L))
    omega)
   rw [hrw.out] at HR Hj
   have HSr:=za (fun W (hW:Ext w W)=>HS.out W hW rw_ hrs.out)
   obtain⟨sf,hsf⟩:∃ sf,Hid (zu s p L rw_=sf):=⟨_,rfl⟩
   rw [hsf.out] at HSr Hj
   rw [hub] at HU
   rw [hbb] at HF
   have zhM:=za (show J=(rw_,if sf=true then -1 else 1) by rw [Hj.out,hub,hbb];rfl)
   rw [zhM.out]
   clear Hj zhM hub hbb
   cases sf
   all_goals
    go_enter Tryz.func194,Tryz.ntmps194
    go_upto_region 1 with fail
    generalize ((w.alloc (.cells #[.int .i64 t.al,.int .i64 t.st,.slice C k c2] 39)).alloc (.cells #[.int .i64 s.al,.int .i64 s.st,.slice A n c,.int .i64 p.al,.slice B m d,.slice B' m' d',.int .i64 L] 199)).alloc (.cells #[.int .i64 a.al,.slice X k1 d1,.slice X' k1' d1'] 26)=w0 at *
    have CT:=b1.cells
    have CK:=b2.cells
    have CA:=b3.cells
    have hww:=Ext.refl w0
    go_wp2_with (first
     |(go_at_call 144;refine (HU.out _ hx0).mono ?_;rintro e w1 ⟨rfl,hx1⟩)
     |(go_at_call 232;refine (HF.out _ (hx0.trans hx1)).mono ?_;rintro e w2 ⟨rfl,hx2⟩;have hx12:=hx1.trans hx2)
     |(go_at_call 142;refine (HR.out _).mono ?_;rintro e w3 ⟨rfl,hx3⟩;have hx13:=hx12.trans hx3)
     |(go_at_call 233;refine (HSr.out _ (hx0.trans hx13)).mono ?_;rintro e w4 ⟨rfl,hx4⟩;have hx14:=hx13.trans hx4))
    go_ret2
    exact⟨rfl,hx0.trans hx14⟩
 ·have HR:=za (fun W=>zbs (w:=W) (s:=uw) (a:=L) hu.out.1 (by omega))
  rw [hub] at HU
  have zhM:=za (show J=(zbN uw L,-1) by rw [Hj.out,hub];rfl)
  rw [zhM.out]
  clear Hj zhM hub
  go_enter Tryz.func194,Tryz.ntmps194
  go_upto_region 1 with fail
  generalize ((w.alloc (.cells #[.int .i64 t.al,.int .i64 t.st,.slice C k c2] 39)).alloc (.cells #[.int .i64 s.al,.int .i64 s.st,.slice A n c,.int .i64 p.al,.slice B m d,.slice B' m' d',.int .i64 L] 199)).alloc (.cells #[.int .i64 a.al,.slice X k1 d1,.slice X' k1' d1'] 26)=w0 at *
  have CT:=b1.cells
  have CK:=b2.cells
  have CA:=b3.cells
  have hww:=Ext.refl w0
  go_wp2_with (first
   |(go_at_call 144;refine (HU.out _ hx0).mono ?_;rintro e w1 ⟨rfl,hx1⟩)
   |(go_at_call 142;refine (HR.out _).mono ?_;rintro e w3 ⟨rfl,hx3⟩;have hx13:=hx1.trans hx3))
  go_ret2
  exact⟨rfl,hx0.trans hx13⟩
end
structure Vd where
 code:Int
 asm:Aut
 tr:ByteArray
 ro:Nat
def noA:Aut:=⟨0,[],[]⟩
noncomputable def runT (s t:Sys) (p:Aut) (L:Nat):Nat→Nat→Option (List ByteArray × List ByteArray)→Vd
 |0,k,_=>⟨2,noA,⟨#[]⟩,k⟩
 |_+1,k,none=>⟨2,noA,⟨#[]⟩,k⟩
 |f+1,k,some tab =>
  if (zdz s p t L (zgu L (zu s p L) tab.1 tab.2)).2=0 then ⟨0,zgu L (zu s p L) tab.1 tab.2,⟨#[]⟩,k+1⟩
  else if (zdz s p t L (zgu L (zu s p L) tab.1 tab.2)).2=1 then ⟨1,noA,zbe [s,t] p,k+1⟩
  else runT s t p L f (k+1) (zei L (zu s p L) tab.1 tab.2 (zdz s p t L (zgu L (zu s p L) tab.1 tab.2)).1)
def zcf (w:World) (v:Vd) (e:Ending) (w':World):Prop:=
 ∃ (A:Option Addr) (n c:Nat) (A':Option Addr) (n' c':Nat) (x:Int) (X:Option Addr) (k1 d1:Nat) (X':Option Addr) (k1' d1':Nat),
  e=.returned (.tuple #[.agg #[.int .i64 v.code,.int .i64 v.asm.al,.slice A n c,.slice A' n' c',.string v.tr,.int .i64 v.ro],.agg #[.int .i64 x,.slice X k1 d1,.slice X' k1' d1']])∧zO w' w.heap.size A n c A' n' c' v.asm∧Ext w w'
def zes (L:Nat) (f:ByteArray→Bool) (o:Option (List ByteArray × List ByteArray)):Prop:=∀ rs cs,o=some (rs,cs)→zcH L f rs cs∧zbk L f rs cs=none
theorem zes.new (L:Nat) (f:ByteArray→Bool):zes L f ((zaE L f [⟨#[]⟩] 11 [⟨#[]⟩]).map fun r=>(r,[⟨#[]⟩])):=by
 intro rs cs h
 obtain⟨r,hr,e⟩:=Option.map_eq_some_iff.1 h
 obtain⟨rfl,rfl⟩:=Prod.mk.inj e
 obtain⟨h1,h2,-⟩:=closeT_ok 11 _ _ (zcH.first L f) (by decide) hr
 exact⟨h1,h2⟩
theorem zes.learn {L:Nat} {f:ByteArray→Bool} {rows cols:List ByteArray}(h:zcH L f rows cols) (x:ByteArray):zes L f (zei L f rows cols x):=by
 intro rs cs hl
 unfold zei at hl
 split at hl
 ·cases hl
 ·rename_i col hc
  split at hl
  ·rename_i ha
   obtain⟨r,hr,e⟩:=Option.map_eq_some_iff.1 hl
   obtain⟨rfl,rfl⟩:=Prod.mk.inj e
   have hI:=h.addC ha
   obtain⟨h1,h2,-⟩:=closeT_ok _ _ _ hI (by have:=h.r12;omega) hr
   exact⟨h1,h2⟩
  ·cases hl
theorem judgeT_size {s:Sys} {p:Aut} {t:Sys} {L:Nat} {a:Aut}(hs:zr s=true)(hp:zh p=true)(ht:zr t=true)(ha:zh a=true):(zdz s p t L a).1.size≤50000:=by
 have h1:=zfX hs ha hp
 have h2:=zev (ss:=[t]) (p:=a) (by unfold zU;simp [ht]) ha
 unfold zdz
 split
 ·exact zaT (zbi (zhi h1.1 L))
 ·split
  ·exact zaT (zbi (zhi h2.1 L))
  ·exact Nat.zero_le _
def TabM (w0 W:World) (g:Nat) (o:Option (List ByteArray × List ByteArray)):Prop:=
 ∃ (nr nc:Nat) (R:Option Addr) (cr:Nat) (C:Option Addr) (cc:Nat),Blk W g 205 #[.slice R nr cr,.slice C nc cc]∧nr≤cr∧nc≤cc ∧
  ∀ rs cs,o=some (rs,cs)→W.ownsRow w0.heap.size 9 1 (.slice R nr cr) nr (zF rs)∧W.ownsRow w0.heap.size 9 1 (.slice C nc cc) nc (zF cs)
theorem TabM.far {w0 W W':World} {g G:Nat} {o:Option (List ByteArray × List ByteArray)} {cs:Array Value} {t:TypeId}(h:TabM w0 W g o)(hB:Blk W G t cs)(hf:Frm (fun k=>k=G) W W')(hg:g≠G)(ht:9≠t):TabM w0 W' g o:=by
 obtain⟨nr,nc,R,cr,C,cc,hb,h1,h2,h3⟩:=h
 exact⟨nr,nc,R,cr,C,cc,hb.frm hf hg,h1,h2,fun rs cs e=>⟨zd (h3 rs cs e).1 hf (fun b hv e'=>zk (h3 rs cs e).1 hB ht hv e'),zd (h3 rs cs e).2 hf (fun b hv e'=>zk (h3 rs cs e).2 hB ht hv e')⟩⟩
theorem zbF.fill {w w0 W:World} {o:Option (List ByteArray × List ByteArray)} {e:Ending}(h:zbF w o e W)(hw:w0.heap.size≤w.heap.size) :
  Ext w W∧∃ (nr nc:Nat) (R:Option Addr) (cr:Nat) (C:Option Addr) (cc:Nat),e=.returned (.tuple #[.agg #[.slice R nr cr,.slice C nc cc],.bool o.isSome])∧nr≤cr∧nc≤cc ∧
   ∀ rs cs,o=some (rs,cs)→W.ownsRow w0.heap.size 9 1 (.slice R nr cr) nr (zF rs)∧W.ownsRow w0.heap.size 9 1 (.slice C nc cc) nc (zF cs):=by
 obtain⟨hx,⟨rfl,rfl⟩|⟨rs,cs,nr,nc,R,cr,C,cc,rfl,rfl,h1,h2⟩⟩:=h
 ·exact⟨hx,0,0,none,0,none,0,rfl,Nat.le_refl _,Nat.le_refl _,fun _ _ e=>by cases e⟩
 ·refine⟨hx,nr,nc,R,cr,C,cc,rfl,zfi h1,zfi h2,fun rs' cs' e=>?_⟩
  obtain⟨rfl,rfl⟩:=Prod.mk.inj (Option.some.inj e)
  exact⟨zl h1 hw,zl h2 hw⟩
theorem sl_pair {w:World} {g lo hi n c lo2 hi2 k c2:Nat} {A C:Option Addr} {s t:Sys}(hb:Blk w g 39 #[.int .i64 s.al,.int .i64 s.st,.slice A n c,.int .i64 t.al,.int .i64 t.st,.slice C k c2])(h:zah w lo hi A n s)(h':zah w lo2 hi2 C k t):∃ lo hi,SLAt w lo hi (some ⟨g,0,none⟩) 2 [s,t]:=by
 refine⟨0,hi+hi2+g+1,rfl,[.int .i64 s.al,.int .i64 s.st,.slice A n c,.int .i64 t.al,.int .i64 t.st,.slice C k c2],⟨rfl,by omega,fun _=>⟨_,rfl,Nat.zero_le _,by dsimp only;omega,fun j u hu=>?_⟩⟩,fun j u hu=>?_⟩
 ·rw [zH,Nat.zero_add,hb.cell]
  simpa using hu
 ·match j with
  |0 =>
   simp at hu;subst hu
   exact⟨A,n,c,rfl,rfl,rfl,h.1,h.2.more (Nat.zero_le _) (by omega)⟩
  |1 =>
   simp at hu;subst hu
   exact⟨C,k,c2,rfl,rfl,rfl,h'.1,h'.2.more (Nat.zero_le _) (by omega)⟩
  |j+2=>simp at hu
theorem zcf.drew {w W:World} {v:Vd} {e:Ending}(h:zcf w v e W):zcf w v e W.drew:=by
 obtain⟨A,n,c,A',n',c',x,X,k1,d1,X',k1',d1',he,ho,hx⟩:=h
 have hd:Ext W W.drew:=(Ext.refl W).drew
 exact⟨A,n,c,A',n',c',x,X,k1,d1,X',k1',d1',he,ho.ext hd,hx.trans hd⟩
theorem zcf.cast {w W:World} {v u:Vd} {e:Ending}(hu:u=v)(h:zcf w v e W):zcf w u e W:=hu ▸ h
def roAt (W:World) (g:Nat):Nat:=match W.cell? ⟨g,5,none⟩ with|some (.int _ z)=>z.toNat|_=>0
theorem roAt_blk {W:World} {g j:Nat} {t:TypeId} {u0 u1 u2 u3 u4:Value}(h:Blk W g t #[u0,u1,u2,u3,u4,.int .i64 j]):roAt W g=j:=by
 unfold roAt
 rw [h.cell 5]
 exact Int.toNat_natCast j
theorem runT_end {s t:Sys} {p:Aut} {L K j:Nat} {o:Option (List ByteArray × List ByteArray)}(h:¬ (o.isSome=true∧j<K)):runT s t p L (K - j) j o=⟨2,noA,⟨#[]⟩,j⟩:=by
 cases hk:K - j with
 |zero=>rfl
 |succ f =>
  cases o with
  |none=>rfl
  |some tab=>exact absurd ⟨rfl,by omega⟩ h
theorem zhm (W:World) (Z:Nat) (u0 u1 u2 u3 u4 u5:Value):Frm (fun k=>k=Z) W ((((((W.setCell ⟨Z,0,none⟩ u0).setCell ⟨Z,1,none⟩ u1).setCell ⟨Z,2,none⟩ u2).setCell ⟨Z,3,none⟩ u3).setCell ⟨Z,4,none⟩ u4).setCell ⟨Z,5,none⟩ u5):=
 (((((Frm.setCell W _ 0 _).trans (Frm.setCell _ _ 1 _)).trans (Frm.setCell _ _ 2 _)).trans (Frm.setCell _ _ 3 _)).trans (Frm.setCell _ _ 4 _)).trans (Frm.setCell _ _ 5 _)
theorem Frm.drew {S:Nat→Prop} {a w:World}(h:Frm S a w):Frm S a w.drew:=⟨h.os,h.tape,h.output,h.size,h.block⟩
theorem zfl {w W:World} {Z n c n' c' k1 d1 k1' d1':Nat} {A A' X X':Option Addr} {v:Vd} {x:Int} {vs us:Array Value}(hx:Ext w W)(hv:Blk W Z 139 vs)(hu:Blk W (Z+1) 26 us)(h6:vs.size=6)(h3:us.size=3)(hZ:w.heap.size≤Z)(ho:zO W w.heap.size A n c A' n' c' v.asm) :
  Hid (zcf w v (.returned (.tuple #[.agg #[.int .i64 v.code,.int .i64 v.asm.al,.slice A n c,.slice A' n' c',.string v.tr,.int .i64 v.ro],.agg #[.int .i64 x,.slice X k1 d1,.slice X' k1' d1']]))
   (((((((((W.setCell ⟨Z,0,none⟩ (.int .i64 v.code)).setCell ⟨Z,1,none⟩ (.int .i64 v.asm.al)).setCell ⟨Z,2,none⟩ (.slice A n c)).setCell ⟨Z,3,none⟩ (.slice A' n' c')).setCell ⟨Z,4,none⟩ (.string v.tr)).setCell ⟨Z,5,none⟩ (.int .i64 v.ro)).setCell ⟨Z+1,0,none⟩ (.int .i64 x)).setCell ⟨Z+1,1,none⟩ (.slice X k1 d1)).setCell ⟨Z+1,2,none⟩ (.slice X' k1' d1'))) ∧
  Blk (((((((((W.setCell ⟨Z,0,none⟩ (.int .i64 v.code)).setCell ⟨Z,1,none⟩ (.int .i64 v.asm.al)).setCell ⟨Z,2,none⟩ (.slice A n c)).setCell ⟨Z,3,none⟩ (.slice A' n' c')).setCell ⟨Z,4,none⟩ (.string v.tr)).setCell ⟨Z,5,none⟩ (.int .i64 v.ro)).setCell ⟨Z+1,0,none⟩ (.int .i64 x)).setCell ⟨Z+1,1,none⟩ (.slice X k1 d1)).setCell ⟨Z+1,2,none⟩ (.slice X' k1' d1')) Z 139 #[.int .i64 v.code,.int .i64 v.asm.al,.slice A n c,.slice A' n' c',.string v.tr,.int .i64 v.ro] ∧
  Blk (((((((((W.setCell ⟨Z,0,none⟩ (.int .i64 v.code)).setCell ⟨Z,1,none⟩ (.int .i64 v.asm.al)).setCell ⟨Z,2,none⟩ (.slice A n c)).setCell ⟨Z,3,none⟩ (.slice A' n' c')).setCell ⟨Z,4,none⟩ (.string v.tr)).setCell ⟨Z,5,none⟩ (.int .i64 v.ro)).setCell ⟨Z+1,0,none⟩ (.int .i64 x)).setCell ⟨Z+1,1,none⟩ (.slice X k1 d1)).setCell ⟨Z+1,2,none⟩ (.slice X' k1' d1')) (Z+1) 26 #[.int .i64 x,.slice X k1 d1,.slice X' k1' d1']:=by
 obtain⟨lv⟩:=vs
 match lv,h6 with
 |[a0,a1,a2,a3,a4,a5],_ =>
 have hf1:Frm (fun k=>k=Z) W ((((((W.setCell ⟨Z,0,none⟩ (.int .i64 v.code)).setCell ⟨Z,1,none⟩ (.int .i64 v.asm.al)).setCell ⟨Z,2,none⟩ (.slice A n c)).setCell ⟨Z,3,none⟩ (.slice A' n' c')).setCell ⟨Z,4,none⟩ (.string v.tr)).setCell ⟨Z,5,none⟩ (.int .i64 v.ro)):=
  (((((Frm.setCell W _ 0 _).trans (Frm.setCell _ _ 1 _)).trans (Frm.setCell _ _ 2 _)).trans (Frm.setCell _ _ 3 _)).trans (Frm.setCell _ _ 4 _)).trans (Frm.setCell _ _ 5 _)
 have hv1:Blk ((((((W.setCell ⟨Z,0,none⟩ (.int .i64 v.code)).setCell ⟨Z,1,none⟩ (.int .i64 v.asm.al)).setCell ⟨Z,2,none⟩ (.slice A n c)).setCell ⟨Z,3,none⟩ (.slice A' n' c')).setCell ⟨Z,4,none⟩ (.string v.tr)).setCell ⟨Z,5,none⟩ (.int .i64 v.ro)) Z 139 #[.int .i64 v.code,.int .i64 v.asm.al,.slice A n c,.slice A' n' c',.string v.tr,.int .i64 v.ro]:=by
  simpa using (((((hv.set_ 0 (.int .i64 v.code)).set_ 1 (.int .i64 v.asm.al)).set_ 2 (.slice A n c)).set_ 3 (.slice A' n' c')).set_ 4 (.string v.tr)).set_ 5 (.int .i64 v.ro)
 have ho1:=ho.farT hv hf1 (by decide)
 have hu1:=hu.frm hf1 (by omega)
 have hx1:Ext w ((((((W.setCell ⟨Z,0,none⟩ (.int .i64 v.code)).setCell ⟨Z,1,none⟩ (.int .i64 v.asm.al)).setCell ⟨Z,2,none⟩ (.slice A n c)).setCell ⟨Z,3,none⟩ (.slice A' n' c')).setCell ⟨Z,4,none⟩ (.string v.tr)).setCell ⟨Z,5,none⟩ (.int .i64 v.ro)):=hx.frm hf1 (fun k hk e=>by omega)
 generalize (((((W.setCell ⟨Z,0,none⟩ (.int .i64 v.code)).setCell ⟨Z,1,none⟩ (.int .i64 v.asm.al)).setCell ⟨Z,2,none⟩ (.slice A n c)).setCell ⟨Z,3,none⟩ (.slice A' n' c')).setCell ⟨Z,4,none⟩ (.string v.tr)).setCell ⟨Z,5,none⟩ (.int .i64 v.ro)=W1 at *
 have hf2:=zaj W1 (Z+1) (.int .i64 x) (.slice X k1 d1) (.slice X' k1' d1')
 exact⟨za ⟨A,n,c,A',n',c',x,X,k1,d1,X',k1',d1',rfl,ho1.farT hu1 hf2 (by decide),hx1.frm hf2 (fun k hk e=>by omega)⟩,hv1.frm hf2 (by omega),zL hu1 h3 _ _ _⟩
section
variable {w:World} {lo hi n c lo1 hi1 m d m' d' lo2 hi2 k c2:Nat} {A B B' C:Option Addr} {s t:Sys} {p:Aut}
theorem yU10a4 {P:Prop}(h:P:=by
 clear hflag hgo ho hon hne1 hne2 hd hb8 hb9' hxw
 go_wp2_with fail
 refine zaJ (fun Y=>Frm (fun b=>b=Z) wr Y) [3] (zK.of [0,1,2,3]) (by kernel_rfl) (by kernel_rfl) (by kernel_rfl) (by kernel_rfl) (by kernel_rfl) (fun _ _ _ _ _ h=>h) hS0 ?_
 refine zbn (v:=?_) rfl rfl rfl rfl (fun X hX=>?_) ?_
 rotate_left
 focus (go_simp<;>with_reducible rfl)
 refine pT ?_
 refine zbn (v:=?_) rfl rfl rfl rfl (fun X hX=>?_) ?_
 rotate_left
 focus (go_simp<;>with_reducible rfl)
 refine pT ?_
 refine zb fun K hK=>?_;go_simp
 refine hK.out _ _ hf8.out.drew ?_
 refine pT ?_
 refine zg fun K hK=>?_
 go_simp
 refine hK.out _ _ ?_
 refine zj ?_
 go_wp2_with fail
 have cf2:=F2.out.cell
 have cf3:=F3.out.cell
 exact bodyPost_ret (v:=.tuple #[.agg #[.int .i64 2,.int .i64 0,.slice none 0 0,.slice none 0 0,.string ⟨#[]⟩,.int .i64 j],.agg #[.int .i64 x,.slice X k1 d1,.slice X' k1' d1']]) (by simp [results,Tryz.results162,go_sem,cf2,cf3]) rfl F1.out
 ):P:=h
theorem spec_l12Run {L K:Nat}(hs:zah w lo hi A n s)(hp:zM w lo1 hi1 B m B' m' p)(ht:zah w lo2 hi2 C k t)(hif:iface s p t=(L:Int))(hn:n≤1000000)(hhi:hi≤w.heap.size)(hK:K≤1000) :
  Calls Tryz.prog 162 #[.agg #[.int .i64 s.al,.int .i64 s.st,.slice A n c],.agg #[.int .i64 t.al,.int .i64 t.st,.slice C k c2],.agg #[.int .i64 p.al,.slice B m d,.slice B' m' d'],.int .i64 K] w
   (zcf w (runT s t p L K 0 ((zaE L (zu s p L) [⟨#[]⟩] 11 [⟨#[]⟩]).map fun r=>(r,[⟨#[]⟩])))):=by
 obtain⟨vs,vp,vt⟩:=zeg (show 0≤iface s p t by omega)
 have Hv:=za (And.intro vs (And.intro vp vt))
 have HTask:=za (fun W (hW:Ext w W)=>spec_TaskOf (c:=c) (d:=d) (d':=d') (c2:=c2) (hs.ext hW) (hp.ext hW) (ht.ext hW) hif hn (Nat.le_trans hhi hW.size))
 have HPv2:=za (fun W (hW:Ext w W)=>show Calls Tryz.prog 174 #[.slice (some ⟨W.heap.size,0,none⟩) 2 2,.agg #[.int .i64 p.al,.slice B m d,.slice B' m' d']] (W.alloc (.cells #[.int .i64 s.al,.int .i64 s.st,.slice A n c,.int .i64 t.al,.int .i64 t.st,.slice C k c2] 39)) (fun e w'=>e=.returned (.tuple #[.string (zbe [s,t] p),.bool (zeW [s,t] p)])∧Ext W w') by
  have f6:=(Ext.refl W).alloc (.cells #[.int .i64 s.al,.int .i64 s.st,.slice A n c,.int .i64 t.al,.int .i64 t.st,.slice C k c2] 39)
  obtain⟨l1,l2,hsl⟩:=sl_pair (Blk.new W 39 #[.int .i64 s.al,.int .i64 s.st,.slice A n c,.int .i64 t.al,.int .i64 t.st,.slice C k c2]) (hs.ext (hW.trans f6)) (ht.ext (hW.trans f6))
  exact (zbP hsl (hp.ext (hW.trans f6))).mono (fun e w' h=>⟨h.1,f6.trans h.2⟩))
 have HSs:=za (fun W (hW:Ext w W)=>hs.ext hW)
 have HSt:=za (fun W (hW:Ext w W)=>ht.ext hW)
 obtain⟨fin,zhM⟩:∃ fin,Hid (runT s t p L K 0 ((zaE L (zu s p L) [⟨#[]⟩] 11 [⟨#[]⟩]).map fun r=>(r,[⟨#[]⟩]))=fin):=⟨_,rfl⟩
 have htok:=za (zes.new L (zu s p L))
 rw [zhM.out]
 obtain⟨tab0,htab⟩:∃ tab0,Hid ((zaE L (zu s p L) [⟨#[]⟩] 11 [⟨#[]⟩]).map (fun r=>(r,[(⟨#[]⟩:ByteArray)]))=tab0):=⟨_,rfl⟩
 rw [htab.out] at zhM htok
 clear hs hp ht hif vs vp vt
 have hx0:Ext w (((((w.alloc (.cells #[.int .i64 s.al,.int .i64 s.st,.slice A n c] 39)).alloc (.cells #[.int .i64 t.al,.int .i64 t.st,.slice C k c2] 39)).alloc (.cells #[.int .i64 p.al,.slice B m d,.slice B' m' d'] 26)).alloc (.cells #[.int .i64 0,.int .i64 0,.slice none 0 0,.slice none 0 0,.string ⟨#[]⟩,.int .i64 0] 139)).alloc (.cells #[.int .i64 0,.slice none 0 0,.slice none 0 0] 26)):=(((((Ext.refl _).alloc _).alloc _).alloc _).alloc _).alloc _
 obtain⟨b1,b2,b3⟩:=zV (((Ext.refl _).alloc _).alloc _:Ext (((w.alloc (.cells #[.int .i64 s.al,.int .i64 s.st,.slice A n c] 39)).alloc (.cells #[.int .i64 t.al,.int .i64 t.st,.slice C k c2] 39)).alloc (.cells #[.int .i64 p.al,.slice B m d,.slice B' m' d'] 26)) (((((w.alloc (.cells #[.int .i64 s.al,.int .i64 s.st,.slice A n c] 39)).alloc (.cells #[.int .i64 t.al,.int .i64 t.st,.slice C k c2] 39)).alloc (.cells #[.int .i64 p.al,.slice B m d,.slice B' m' d'] 26)).alloc (.cells #[.int .i64 0,.int .i64 0,.slice none 0 0,.slice none 0 0,.string ⟨#[]⟩,.int .i64 0] 139)).alloc (.cells #[.int .i64 0,.slice none 0 0,.slice none 0 0] 26)))
 obtain⟨b8,b9⟩:=zR (Ext.refl (((((w.alloc (.cells #[.int .i64 s.al,.int .i64 s.st,.slice A n c] 39)).alloc (.cells #[.int .i64 t.al,.int .i64 t.st,.slice C k c2] 39)).alloc (.cells #[.int .i64 p.al,.slice B m d,.slice B' m' d'] 26)).alloc (.cells #[.int .i64 0,.int .i64 0,.slice none 0 0,.slice none 0 0,.string ⟨#[]⟩,.int .i64 0] 139)).alloc (.cells #[.int .i64 0,.slice none 0 0,.slice none 0 0] 26)))
 simp only [World.size_alloc] at b8 b9
 go_enter Tryz.func162,Tryz.ntmps162
 go_upto_region 1 with fail
 generalize ((((w.alloc (.cells #[.int .i64 s.al,.int .i64 s.st,.slice A n c] 39)).alloc (.cells #[.int .i64 t.al,.int .i64 t.st,.slice C k c2] 39)).alloc (.cells #[.int .i64 p.al,.slice B m d,.slice B' m' d'] 26)).alloc (.cells #[.int .i64 0,.int .i64 0,.slice none 0 0,.slice none 0 0,.string ⟨#[]⟩,.int .i64 0] 139)).alloc (.cells #[.int .i64 0,.slice none 0 0,.slice none 0 0] 26)=w0 at *
 have CS:=b1.cells
 have CT:=b2.cells
 have CP:=b3.cells
 have hb9:=b9.lt
 have hZw:w.heap.size≤w.heap.size+1+1+1:=by omega
 generalize w.heap.size+1+1+1=Z at *
 have hww:=Ext.refl w0
 go_upto_region 2 with (first
  |(go_at_call 191;refine (HTask.out _ hx0).mono ?_;rintro e w1 ⟨A,n,c,B,m,d,B',m',d',rfl,htch,hx01⟩))
 have hx12:Ext w1 ((w1.alloc (.cells #[.int .i64 s.al,.int .i64 s.st,.slice A n c,.int .i64 p.al,.slice B m d,.slice B' m' d',.int .i64 L] 199)).alloc (.cells #[.bool false,.int .i64 0,.slice none 0 0,.slice none 0 0,.int .i64 s.al,.int .i64 s.st,.slice A n c,.int .i64 p.al,.slice B m d,.slice B' m' d',.int .i64 L] 203)):=((Ext.refl _).alloc _).alloc _
 obtain⟨bK,bT⟩:=zR (Ext.refl ((w1.alloc (.cells #[.int .i64 s.al,.int .i64 s.st,.slice A n c,.int .i64 p.al,.slice B m d,.slice B' m' d',.int .i64 L] 199)).alloc (.cells #[.bool false,.int .i64 0,.slice none 0 0,.slice none 0 0,.int .i64 s.al,.int .i64 s.st,.slice A n c,.int .i64 p.al,.slice B m d,.slice B' m' d',.int .i64 L] 203)))
 have cK:=(Blk.new w1 199 #[.int .i64 s.al,.int .i64 s.st,.slice A n c,.int .i64 p.al,.slice B m d,.slice B' m' d',.int .i64 L]).cell
 go_upto_region 5 with fail
 obtain⟨G10,hG10⟩:∃ G10,Hid (w1.heap.size=G10):=⟨_,rfl⟩
 generalize (w1.alloc (.cells #[.int .i64 s.al,.int .i64 s.st,.slice A n c,.int .i64 p.al,.slice B m d,.slice B' m' d',.int .i64 L] 199)).alloc (.cells #[.bool false,.int .i64 0,.slice none 0 0,.slice none 0 0,.int .i64 s.al,.int .i64 s.st,.slice A n c,.int .i64 p.al,.slice B m d,.slice B' m' d',.int .i64 L] 203)=w2 at *
 rw [hG10.out] at bK bT ⊢
 clear cK
 have htch2:=htch.ext hx12
 have hx02:=hx01.trans hx12
 have hbT:=bT.lt
 have HNT:=za (fun W (hW:Ext w2 W)=>zhp (c:=c) (d:=d) (d':=d') (htch2.ext hW))
 rw [htab.out] at HNT
 have HTA:=za (fun (R:Option Addr) (nr cr:Nat) (C:Option Addr) (nc cc:Nat) (rows cols:List ByteArray) W (hW:Ext w2 W) hT hI hcr hcc hcl=>zbQ (c:=c) (d:=d) (d':=d') (nr:=nr) (nc:=nc) (R:=R) (C:=C) (cr:=cr) (cc:=cc) (rows:=rows) (cols:=cols) (htch2.ext hW) hT hI hcr hcc hcl)
 have HLS:=za (fun (R:Option Addr) (nr cr:Nat) (C:Option Addr) (nc cc:Nat) (rows cols:List ByteArray) (x:ByteArray) W (hW:Ext w2 W) hT hI hcr hcc hcl hx=>zgl (c:=c) (d:=d) (d':=d') (nr:=nr) (nc:=nc) (R:=R) (C:=C) (cr:=cr) (cc:=cc) (rows:=rows) (cols:=cols) (x:=x) (htch2.ext hW) hT hI hcr hcc hcl hx)
 have CTc:=bT.cells
 have CTk:=bK.cells
 have CS2:∀ W,Ext w2 W→∀ q,W.cell? ⟨w.heap.size,q,none⟩=_:=fun W hW=>CS W (hx02.trans hW)
 have CT2:∀ W,Ext w2 W→∀ q,W.cell? ⟨w.heap.size+1,q,none⟩=#[Value.int .i64 t.al,.int .i64 t.st,.slice _ k c2][q]?:=fun W hW=>CT W (hx02.trans hW)
 have CP2:∀ W,Ext w2 W→∀ q,W.cell? ⟨w.heap.size+1+1,q,none⟩=_:=fun W hW=>CP W (hx02.trans hW)
 have hww2:=Ext.refl w2
 clear hww CS CT CP
 go_upto_region 6 with (first
  |(go_at_call 192;refine (HNT.out _ hww2).mono ?_;intro e w3 hret;obtain⟨hx3,nr,nc,R,cr,C,cc,rfl,hcr,hcc,hT3⟩:=hret.fill (w0:=w2) (Nat.le_refl _);clear hret))
 have hx36:Ext w3 (((w3.alloc (.cells #[.slice R nr cr,.slice C nc cc] 205)).alloc (.cells #[.int .i64 2,.int .i64 0,.slice none 0 0,.slice none 0 0,.string ⟨#[]⟩,.int .i64 0] 139)).alloc (.cells #[.int .i64 0,.slice none 0 0,.slice none 0 0] 26)):=(((Ext.refl _).alloc _).alloc _).alloc _
 obtain⟨c13,c15,c16⟩:=zV (Ext.refl (((w3.alloc (.cells #[.slice R nr cr,.slice C nc cc] 205)).alloc (.cells #[.int .i64 2,.int .i64 0,.slice none 0 0,.slice none 0 0,.string ⟨#[]⟩,.int .i64 0] 139)).alloc (.cells #[.int .i64 0,.slice none 0 0,.slice none 0 0] 26)))
 go_wp2_with fail
 obtain⟨G,hG⟩:∃ G,Hid (w3.heap.size=G):=⟨_,rfl⟩
 have hGw:w2.heap.size≤G:=by rw [← hG.out];exact hx3.size
 generalize ((w3.alloc (.cells #[.slice R nr cr,.slice C nc cc] 205)).alloc (.cells #[.int .i64 2,.int .i64 0,.slice none 0 0,.slice none 0 0,.string ⟨#[]⟩,.int .i64 0] 139)).alloc (.cells #[.int .i64 0,.slice none 0 0,.slice none 0 0] 26)=w6 at *
 rw [hG.out] at c13 c15 c16 ⊢
 have hx26:=hx3.trans hx36
 have hTM:TabM w2 w6 G tab0:=⟨nr,nc,R,cr,C,cc,c13,hcr,hcc,fun rs cs e=>⟨ze (hT3 rs cs e).1 hx36,ze (hT3 rs cs e).2 hx36⟩⟩
 clear hT3 c13 hx3 hx36
 go_loopw [14] (fun fv wr=>∃ (o:Option (List ByteArray × List ByteArray)) (j:Nat) (x:Int) (X:Option Addr) (k1 d1:Nat) (X':Option Addr) (k1' d1':Nat),fv=.bool o.isSome∧j≤K∧Hid (zes L (zu s p L) o)∧Hid (runT s t p L (K - j) j o=fin)∧TabM w2 wr G o∧Blk wr (G+1) 139 #[.int .i64 2,.int .i64 0,.slice none 0 0,.slice none 0 0,.string ⟨#[]⟩,.int .i64 j]∧Blk wr (G+1+1) 26 #[.int .i64 x,.slice X k1 d1,.slice X' k1' d1']∧Ext w2 wr) (fun _ wr=>K - roAt wr (G+1))
 case atStart=>exact⟨tab0,0,0,none,0,0,none,0,0,rfl,Nat.zero_le _,htok,zhM,hTM,c15,c16,hx26⟩
 case round =>
  clear hTM c15 c16 hx26
  obtain⟨o,j,x,X,k1,d1,X',k1',d1',rfl,hj,hok,hrun,hTM,c15,c16,hxr⟩:=hrel
  have k15:=c15.cell
  have k16:=c16.cell
  by_cases hgo:o.isSome=true∧j<K
  ·obtain⟨⟨⟨rs,cs⟩,rfl⟩,hlt⟩:(∃ q,o=some q)∧j<K:=⟨Option.isSome_iff_exists.1 hgo.1,hgo.2⟩
   clear hgo
   obtain⟨hI,hcl⟩:=hok.out rs cs rfl
   have hlt':(j:Int)<(K:Int):=by omega
   have f15:=c15.frozen
   have c15a:Blk (wr.setCell ⟨G+1,5,none⟩ (.int .i64 ((j:Int)+1))) (G+1) 139 #[.int .i64 2,.int .i64 0,.slice none 0 0,.slice none 0 0,.string ⟨#[]⟩,.int .i64 ((j:Int)+1)]:=by
    simpa using c15.set_ 5 (.int .i64 ((j:Int)+1))
   have hfA:Frm (fun b=>b=G+1) wr (wr.setCell ⟨G+1,5,none⟩ (.int .i64 ((j:Int)+1))):=Frm.setCell wr _ 5 _
   have c16a:=c16.frm hfA (by omega)
   have hTMa:=hTM.far c15 hfA (by omega) (by decide)
   have hxa:=hxr.setCell (p:=⟨G+1,5,none⟩) (by dsimp only;omega) (.int .i64 ((j:Int)+1))
   go_upto_region 10 with fail
   have hmes:=za (roAt_blk c15)
   clear k15 k16 f15 hTM c15 c16 hxr hfA
   generalize wr.setCell ⟨G+1,5,none⟩ (.int .i64 ((j:Int)+1))=wA at *
   obtain⟨nr,nc,R,cr,C,cc,c13,hcr,hcc,hTT⟩:=hTMa
   obtain⟨oR,oC⟩:=hTT rs cs rfl
   have HTat:=za (show TabAt wA R nr C nc rs cs from ⟨_,_,_,_,Reads.of_own oR,Reads.of_own oC⟩)
   have k13:=c13.cell
   have cTc:=CTc wA hxa
   have hI':=za hI
   have hcl':=za hcl
   have hva:=za (zde hI hcl htch.lt)
   clear hI hcl hTT
   go_upto_region 11 with (first
    |(go_at_call 193;refine (HTA.out _ _ _ _ _ _ rs cs _ hxa HTat.out hI'.out hcr hcc hcl'.out).mono ?_;rintro e wB ⟨Y,q1,e1,Y',q1',e1',rfl,hownA,hxB⟩))
   obtain⟨aut,haut⟩:∃ aut,Hid (zgu L (zu s p L) rs cs=aut):=⟨_,rfl⟩
   rw [haut.out] at hownA hva ⊢
   have hxC:=(Ext.refl wB).alloc (.cells #[.int .i64 aut.al,.slice Y q1 e1,.slice Y' q1' e1'] 26)
   have b17:=Blk.new wB 26 #[.int .i64 aut.al,.slice Y q1 e1,.slice Y' q1' e1']
   have hownC:=hownA.ext hxC
   generalize wB.alloc (.cells #[.int .i64 aut.al,.slice Y q1 e1,.slice Y' q1' e1'] 26)=wC at *
   have hxBC:=hxB.trans hxC
   have c16C:=c16a.ext hxBC
   have c15C:=c15a.ext hxBC
   have c13C:=c13.ext hxBC
   have oRC:=ze oR hxBC
   have oCC:=ze oC hxBC
   have k16:=c16C.cell
   have f16:=c16C.frozen
   have k17:=b17.cell
   have hfD:=zaj wC (G+1+1) (.int .i64 aut.al) (.slice Y q1 e1) (.slice Y' q1' e1')
   have c16D:=zL c16C rfl (.int .i64 aut.al) (.slice Y q1 e1) (.slice Y' q1' e1')
   have c15D:=c15C.frm hfD (by omega)
   have c13D:=c13C.frm hfD (by omega)
   have oRD:=zd oRC hfD (fun b hv e=>zk oRC c16C (by decide) hv e)
   have oCD:=zd oCC hfD (fun b hv e=>zk oCC c16C (by decide) hv e)
   have hownD:=hownC.farT c16C hfD (by decide)
   have hxD:=((hxa.trans hxBC).frm hfD (fun k hk e=>by omega))
   have hsB:=za (hxa.trans hxB).size
   have hsA:=za hxa.size
   clear c16C c15C c13C oRC oCC hfD hownC hownA b17 c16a c15a c13 oR oC k13 cTc HTat
   go_upto_region 12 with fail
   generalize ((wC.setCell ⟨G+1+1,0,none⟩ (.int .i64 aut.al)).setCell ⟨G+1+1,1,none⟩ (.slice Y q1 e1)).setCell ⟨G+1+1,2,none⟩ (.slice Y' q1' e1')=wD at *
   clear k16 f16 k17
   have HJ:=za (zhs (c:=c) (d:=d) (d':=d') (c2:=c2) (d1:=e1) (d1':=e1') (htch2.ext hxD) (HSt.out wD (hx0.trans (hx02.trans hxD))) hownD.reads Hv.out.2.2 hva.out)
   have hJs:=za (judgeT_size (L:=L) Hv.out.1 Hv.out.2.1 Hv.out.2.2 hva.out)
   obtain⟨J,hJ⟩:∃ J,Hid (zdz s p t L aut=J):=⟨_,rfl⟩
   rw [hJ.out] at HJ hJs
   have k16:=c16D.cell
   have cTk:=CTk wD hxD
   have cTt:=CT2 wD hxD
   go_upto_region 13 with (first
    |(go_at_call 194;refine HJ.out.mono ?_;rintro e wE ⟨rfl,hxE⟩))
   have hxDE:=hxD.trans hxE
   have c16E:=c16D.ext hxE
   have c15E:=c15D.ext hxE
   have c13E:=c13D.ext hxE
   have oRE:=ze oRD hxE
   have oCE:=ze oCD hxE
   have hownE:=hownD.ext hxE
   clear k16 cTk cTt c16D c15D c13D oRD oCD hownD HJ
   have hrunJ:=za (show (if J.2=0 then (⟨0,aut,⟨#[]⟩,j+1⟩:Vd) else if J.2=1 then ⟨1,noA,zbe [s,t] p,j+1⟩ else runT s t p L (K - (j+1)) (j+1) (zei L (zu s p L) rs cs J.1))=fin by
    rw [← hrun.out,show K - j=(K - (j+1))+1 by omega]
    show _=runT s t p L ((K - (j+1))+1) j (some (rs,cs))
    rw [runT,haut.out,hJ.out])
   by_cases hJ0:J.2=0
   ·have hfn:=za (show fin=⟨0,aut,⟨#[]⟩,j+1⟩ by rw [← hrunJ.out,if_pos hJ0])
    have k15:=c15E.cell
    have f15:=c15E.frozen
    have c15F:Blk (wE.setCell ⟨G+1,0,none⟩ (.int .i64 0)) (G+1) 139 #[.int .i64 0,.int .i64 0,.slice none 0 0,.slice none 0 0,.string ⟨#[]⟩,.int .i64 ((j:Int)+1)]:=by
     simpa using c15E.set_ 0 (.int .i64 0)
    have hfF:Frm (fun b=>b=G+1) wE (wE.setCell ⟨G+1,0,none⟩ (.int .i64 0)):=Frm.setCell wE _ 0 _
    have c16F:=c16E.frm hfF (by omega)
    have hownF:=hownE.farT c15E hfF (by decide)
    have hxF:=hxDE.setCell (p:=⟨G+1,0,none⟩) (by dsimp only;omega) (.int .i64 0)
    clear hrunJ c13E c16E oRE oCE hfF hownE c15E
    go_upto_region 16 with fail
    generalize wE.setCell ⟨G+1,0,none⟩ (.int .i64 0)=wF at *
    clear k15 f15 hJ0
    have HCp:=za (zZ (c:=e1) (c':=e1') hownF.reads (zcq hva.out))
    have k16:=c16F.cell
    go_upto_region 17 with (first
     |(go_at_call 124;refine HCp.out.mono ?_;rintro e wG ⟨Z1,z1,y1,Z2,z2,y2,rfl,hownG,hxG⟩;have k15:=(c15F.ext hxG).cell;have f15:=(c15F.ext hxG).frozen))
    have c15G:=c15F.ext hxG
    have c16G:=c16F.ext hxG
    have hfH:Frm (fun b=>b=G+1) wG (((wG.setCell ⟨G+1,1,none⟩ (.int .i64 aut.al)).setCell ⟨G+1,2,none⟩ (.slice Z1 z1 y1)).setCell ⟨G+1,3,none⟩ (.slice Z2 z2 y2)):=((Frm.setCell wG _ 1 _).trans (Frm.setCell _ _ 2 _)).trans (Frm.setCell _ _ 3 _)
    have c15H:Blk (((wG.setCell ⟨G+1,1,none⟩ (.int .i64 aut.al)).setCell ⟨G+1,2,none⟩ (.slice Z1 z1 y1)).setCell ⟨G+1,3,none⟩ (.slice Z2 z2 y2)) (G+1) 139 #[.int .i64 0,.int .i64 aut.al,.slice Z1 z1 y1,.slice Z2 z2 y2,.string ⟨#[]⟩,.int .i64 ((j:Int)+1)]:=by
     simpa using ((c15G.set_ 1 (.int .i64 aut.al)).set_ 2 (.slice Z1 z1 y1)).set_ 3 (.slice Z2 z2 y2)
    have c16H:=c16G.frm hfH (by omega)
    have hownH:=(hownG.farT c15G hfH (by decide)).less (show w.heap.size≤wF.heap.size by have:=hxF.size;have:=hx02.size;have:=hx0.size;omega)
    have hxH:=(hxF.trans hxG).frm hfH (fun k hk e=>by omega)
    clear k15 f15 k16 c15F c16F c15G c16G hfH hownF hownG HCp
    generalize ((wG.setCell ⟨G+1,1,none⟩ (.int .i64 aut.al)).setCell ⟨G+1,2,none⟩ (.slice Z1 z1 y1)).setCell ⟨G+1,3,none⟩ (.slice Z2 z2 y2)=wH at *
    have hxw:Ext w wH:=hx0.trans (hx02.trans hxH)
    have hb8:=b8.ext (hx02.trans hxH)
    have hb9':=b9.ext (hx02.trans hxH)
    obtain⟨f1,f2,f3⟩:=zfl (v:=⟨0,aut,⟨#[]⟩,j+1⟩) (x:=aut.al) (X:=Y) (k1:=q1) (d1:=e1) (X':=Y') (k1':=q1') (d1':=e1') hxw hb8 hb9' rfl rfl (by omega) hownH
    have F1:=za (zcf.cast hfn.out f1.out.drew)
    clear f1
    simp only [Int.natCast_add,Int.cast_ofNat_Int] at F1 f2 f3
    have F2:=za f2
    have F3:=za f3
    clear f2 f3
    have k8:=hb8.cell
    have z8:=hb8.frozen
    have k9:=hb9'.cell
    have z9:=hb9'.frozen
    have hne1:G+1≠Z:=by have:=hx02.size;omega
    have hne2:G+1+1≠Z:=by have:=hx02.size;omega
    have C15:∀ W,Frm (fun b=>b=Z) wH W→∀ q,W.cell? ⟨G+1,q,none⟩=#[Value.int .i64 0,.int .i64 aut.al,.slice Z1 z1 y1,.slice Z2 z2 y2,.string ⟨#[]⟩,.int .i64 ((j:Int)+1)][q]?:=fun W hW=>(c15H.frm hW hne1).cell
    have C16:∀ W,Frm (fun b=>b=Z) wH W→∀ q,W.cell? ⟨G+1+1,q,none⟩=#[Value.int .i64 aut.al,.slice Y q1 e1,.slice Y' q1' e1'][q]?:=fun W hW=>(c16H.frm hW hne2).cell
    have hS0:Frm (fun b=>b=Z) wH wH.drew:=⟨rfl,rfl,rfl,Nat.le_refl _,fun _ _ _=>rfl⟩
    have hf8:=za (zhm wH Z (.int .i64 0) (.int .i64 aut.al) (.slice Z1 z1 y1) (.slice Z2 z2 y2) (.string ⟨#[]⟩) (.int .i64 ((j:Int)+1)))
    clear c15H c16H hownH hb8 hb9' hxw hne1 hne2
    go_wp2_with fail
    refine zaJ (fun Y=>Frm (fun b=>b=Z) wH Y) [3] (zK.of [0,1,2,3]) (by kernel_rfl) (by kernel_rfl) (by kernel_rfl) (by kernel_rfl) (by kernel_rfl) (fun _ _ _ _ _ h=>h) hS0 ?_
    refine zbn (v:=?_) rfl rfl rfl rfl (fun X hX=>?_) ?_
    rotate_left
    focus (go_simp<;>with_reducible rfl)
    refine pT ?_
    refine zbn (v:=?_) rfl rfl rfl rfl (fun X hX=>?_) ?_
    rotate_left
    focus (go_simp<;>with_reducible rfl)
    refine pT ?_
    refine zb fun K hK=>?_;go_simp
    refine hK.out _ _ hf8.out.drew ?_
    refine pT ?_
    refine zg fun K hK=>?_
    go_simp
    refine hK.out _ _ ?_
    refine zj ?_
    go_wp2_with fail
    have cf2:=F2.out.cell
    have cf3:=F3.out.cell
    exact bodyPost_ret (v:=.tuple #[.agg #[.int .i64 0,.int .i64 aut.al,.slice Z1 z1 y1,.slice Z2 z2 y2,.string ⟨#[]⟩,.int .i64 ((j:Int)+1)],.agg #[.int .i64 aut.al,.slice Y q1 e1,.slice Y' q1' e1']]) (by simp [results,Tryz.results162,go_sem,cf2,cf3]) rfl F1.out
   ·by_cases hJ1:J.2=1
    ·have hfn:=za (show fin=⟨1,noA,zbe [s,t] p,j+1⟩ by rw [← hrunJ.out,if_neg hJ0,if_pos hJ1])
     have HP:=za (HPv2.out wE (hx0.trans (hx02.trans hxDE)))
     have cS:=CS2 wE hxDE
     have cT:=CT2 wE hxDE
     have cP:∀ (v:Array Value) (q:Nat),(wE.alloc (.cells v 39)).cell? ⟨w.heap.size+1+1,q,none⟩=_:=fun v q=>CP2 _ (hxDE.trans ((Ext.refl wE).alloc _)) q
     clear hJ0 hrunJ c13E oRE oCE hownE
     go_upto_region 20 with (first
      |(go_at_call 174;refine HP.out.mono ?_;rintro e wF ⟨rfl,hxF⟩;clear cS cT cP))
     have c15F:=c15E.ext hxF
     have c16F:=c16E.ext hxF
     have hxDF:=hxDE.trans hxF
     have k15:=c15F.cell
     have f15:=c15F.frozen
     clear HP c15E c16E
     go_upto_region 22 with fail
     have hfH:Frm (fun b=>b=G+1) wF ((wF.setCell ⟨G+1,0,none⟩ (.int .i64 1)).setCell ⟨G+1,4,none⟩ (.string (zbe [s,t] p))):=(Frm.setCell wF _ 0 _).trans (Frm.setCell _ _ 4 _)
     have c15H:Blk ((wF.setCell ⟨G+1,0,none⟩ (.int .i64 1)).setCell ⟨G+1,4,none⟩ (.string (zbe [s,t] p))) (G+1) 139 #[.int .i64 1,.int .i64 0,.slice none 0 0,.slice none 0 0,.string (zbe [s,t] p),.int .i64 ((j:Int)+1)]:=by
      simpa using (c15F.set_ 0 (.int .i64 1)).set_ 4 (.string (zbe [s,t] p))
     have c16H:=c16F.frm hfH (by omega)
     have hxH:=hxDF.frm hfH (fun k hk e=>by omega)
     clear k15 f15 c15F c16F hfH hJ1
     generalize (wF.setCell ⟨G+1,0,none⟩ (.int .i64 1)).setCell ⟨G+1,4,none⟩ (.string (zbe [s,t] p))=wH at *
     have hxw:Ext w wH:=hx0.trans (hx02.trans hxH)
     have hb8:=b8.ext (hx02.trans hxH)
     have hb9':=b9.ext (hx02.trans hxH)
     obtain⟨f1,f2,f3⟩:=zfl (v:=⟨1,noA,zbe [s,t] p,j+1⟩) (A:=none) (n:=0) (c:=0) (A':=none) (n':=0) (c':=0) (x:=aut.al) (X:=Y) (k1:=q1) (d1:=e1) (X':=Y') (k1':=q1') (d1':=e1') hxw hb8 hb9' rfl rfl (by omega) (⟨⟨[],World.ownsRow_nil _ _ _ _,zy.nil _ _⟩,rfl,World.ownsRow_nil _ _ _ _,rfl⟩:zO wH w.heap.size none 0 0 none 0 0 noA)
     have F1:=za (zcf.cast hfn.out f1.out.drew)
     clear f1
     simp only [noA,Int.natCast_add,Int.cast_ofNat_Int] at F1 f2 f3
     have F2:=za f2
     have F3:=za f3
     clear f2 f3
     have k8:=hb8.cell
     have z8:=hb8.frozen
     have k9:=hb9'.cell
     have z9:=hb9'.frozen
     have hne1:G+1≠Z:=by have:=hx02.size;omega
     have hne2:G+1+1≠Z:=by have:=hx02.size;omega
     have C15:∀ W,Frm (fun b=>b=Z) wH W→∀ q,W.cell? ⟨G+1,q,none⟩=#[Value.int .i64 1,.int .i64 0,.slice none 0 0,.slice none 0 0,.string (zbe [s,t] p),.int .i64 ((j:Int)+1)][q]?:=fun W hW=>(c15H.frm hW hne1).cell
     have C16:∀ W,Frm (fun b=>b=Z) wH W→∀ q,W.cell? ⟨G+1+1,q,none⟩=#[Value.int .i64 aut.al,.slice Y q1 e1,.slice Y' q1' e1'][q]?:=fun W hW=>(c16H.frm hW hne2).cell
     have hS0:Frm (fun b=>b=Z) wH wH.drew:=⟨rfl,rfl,rfl,Nat.le_refl _,fun _ _ _=>rfl⟩
     have hf8:=za (zhm wH Z (.int .i64 1) (.int .i64 0) (.slice none 0 0) (.slice none 0 0) (.string (zbe [s,t] p)) (.int .i64 ((j:Int)+1)))
     clear c15H c16H hb8 hb9' hxw hne1 hne2
     go_wp2_with fail
     refine zaJ (fun Y=>Frm (fun b=>b=Z) wH Y) [3] (zK.of [0,1,2,3]) (by kernel_rfl) (by kernel_rfl) (by kernel_rfl) (by kernel_rfl) (by kernel_rfl) (fun _ _ _ _ _ h=>h) hS0 ?_
     refine zbn (v:=?_) rfl rfl rfl rfl (fun X hX=>?_) ?_
     rotate_left
     focus (go_simp<;>with_reducible rfl)
     refine pT ?_
     refine zbn (v:=?_) rfl rfl rfl rfl (fun X hX=>?_) ?_
     rotate_left
     focus (go_simp<;>with_reducible rfl)
     refine pT ?_
     refine zb fun K hK=>?_;go_simp
     refine hK.out _ _ hf8.out.drew ?_
     refine pT ?_
     refine zg fun K hK=>?_
     go_simp
     refine hK.out _ _ ?_
     refine zj ?_
     go_wp2_with fail
     have cf2:=F2.out.cell
     have cf3:=F3.out.cell
     exact bodyPost_ret (v:=.tuple #[.agg #[.int .i64 1,.int .i64 0,.slice none 0 0,.slice none 0 0,.string (zbe [s,t] p),.int .i64 ((j:Int)+1)],.agg #[.int .i64 aut.al,.slice Y q1 e1,.slice Y' q1' e1']]) (by simp [results,Tryz.results162,go_sem,cf2,cf3]) rfl F1.out
    ·have e0:(J.2==0)=false:=by simpa using hJ0
     have e2:(J.2==1)=false:=by simpa using hJ1
     have hrunL:=za (show runT s t p L (K - (j+1)) (j+1) (zei L (zu s p L) rs cs J.1)=fin by
      have:=hrunJ.out
      rw [if_neg hJ0,if_neg hJ1] at this
      exact this)
     clear hJ0 hJ1 hrunJ
     have cTc:=CTc wE hxDE
     have k13:=c13E.cell
     have HTatE:=za (show TabAt wE R nr C nc rs cs from ⟨_,_,_,_,Reads.of_own oRE,Reads.of_own oCE⟩)
     go_upto_region 24 with (first
      |(go_at_call 195;refine (HLS.out _ _ _ _ _ _ rs cs J.1 _ hxDE HTatE.out hI'.out hcr hcc hcl'.out (by have:=hJs.out;omega)).mono ?_;intro e wF hret;obtain⟨hxF,nr2,nc2,R2,cr2,C2,cc2,rfl,hcr2,hcc2,hT2⟩:=hret.fill (w0:=w2) hxDE.size;clear hret))
     have hokL:=za (zes.learn hI'.out J.1)
     generalize zei L (zu s p L) rs cs J.1=oL at *
     have hxG:=(Ext.refl wF).alloc (.cells #[.slice R2 nr2 cr2,.slice C2 nc2 cc2] 205)
     have b23:=Blk.new wF 205 #[.slice R2 nr2 cr2,.slice C2 nc2 cc2]
     generalize wF.alloc (.cells #[.slice R2 nr2 cr2,.slice C2 nc2 cc2] 205)=wG at *
     have hxEG:=hxF.trans hxG
     have c13G:=c13E.ext hxEG
     have c15G:=c15E.ext hxEG
     have c16G:=c16E.ext hxEG
     have hxDG:=hxDE.trans hxEG
     have k23:=b23.cell
     have k13G:=c13G.cell
     have f13G:=c13G.frozen
     have hfH:Frm (fun b=>b=G) wG ((wG.setCell ⟨G,0,none⟩ (.slice R2 nr2 cr2)).setCell ⟨G,1,none⟩ (.slice C2 nc2 cc2)):=(Frm.setCell wG _ 0 _).trans (Frm.setCell _ _ 1 _)
     have hTMH:TabM w2 ((wG.setCell ⟨G,0,none⟩ (.slice R2 nr2 cr2)).setCell ⟨G,1,none⟩ (.slice C2 nc2 cc2)) G oL:=
      ⟨nr2,nc2,R2,cr2,C2,cc2,by simpa using (c13G.set_ 0 (.slice R2 nr2 cr2)).set_ 1 (.slice C2 nc2 cc2),hcr2,hcc2,fun rs' cs' e=>by
       have h1:=ze (hT2 rs' cs' e).1 hxG
       have h2:=ze (hT2 rs' cs' e).2 hxG
       exact⟨zd h1 hfH (fun b hv e'=>zk h1 c13G (by decide) hv e'),zd h2 hfH (fun b hv e'=>zk h2 c13G (by decide) hv e')⟩⟩
     have c15H:=c15G.frm hfH (by omega)
     have c16H:=c16G.frm hfH (by omega)
     have hxH:=hxDG.frm hfH (fun k hk e=>by omega)
     clear cTc k13 c13E c15E c16E oRE oCE hownE c13G c15G c16G hfH b23 hT2
     go_upto_region 25 with fail
     generalize (wG.setCell ⟨G,0,none⟩ (.slice R2 nr2 cr2)).setCell ⟨G,1,none⟩ (.slice C2 nc2 cc2)=wH at *
     clear k23 k13G f13G
     have hjj:((j:Int)+1)=((j+1:Nat):Int):=by omega
     rw [hjj] at c15H
     have hmes2:=za (roAt_blk c15H)
     clear hjj
     go_wp2_with fail
     go_roundw
     case rel=>exact⟨oL,j+1,aut.al,Y,q1,e1,Y',q1',e1',rfl,by omega,hokL,hrunL,hTMH,c15H,c16H,hxH⟩
     case measure=>have h1:=hmes.out;have h2:=hmes2.out;omega
  ·have hfn:=za (show fin=⟨2,noA,⟨#[]⟩,j⟩ by
    rw [← hrun.out]
    exact runT_end hgo)
   have hb8:=(b8.ext (hx02.trans hxr))
   have hb9':=(b9.ext (hx02.trans hxr))
   have hon:zO wr w.heap.size none 0 0 none 0 0 noA:=⟨⟨[],World.ownsRow_nil _ _ _ _,zy.nil _ _⟩,rfl,World.ownsRow_nil _ _ _ _,rfl⟩
   have hflag:(o.isSome&&decide ((j:Int)<(K:Int)))=false:=by
    rw [Bool.eq_false_iff]
    intro h
    simp only [Bool.and_eq_true,decide_eq_true_eq] at h
    exact hgo ⟨h.1,by omega⟩
   have hxw:Ext w wr:=hx0.trans (hx02.trans hxr)
   have hd:Ext wr wr.drew:=(Ext.refl wr).drew
   obtain⟨f1,f2,f3⟩:=zfl (v:=⟨2,noA,⟨#[]⟩,j⟩) (x:=x) (X:=X) (k1:=k1) (d1:=d1) (X':=X') (k1':=k1') (d1':=d1') hxw hb8 hb9' rfl rfl (by omega) hon
   have F1:=za (zcf.cast hfn.out f1.out.drew)
   clear f1
   simp only [noA] at F1 f2 f3
   have F2:=za f2
   have F3:=za f3
   clear f2 f3
   have k8:=hb8.cell
   have z8:=hb8.frozen
   have k9:=hb9'.cell
   have z9:=hb9'.frozen
   have hsw:=hx0.size
   have hne1:G+1≠Z:=by have:=hx02.size;omega
   have hne2:G+1+1≠Z:=by have:=hx02.size;omega
   have C15:∀ W,Frm (fun b=>b=Z) wr W→∀ q,W.cell? ⟨G+1,q,none⟩=#[Value.int .i64 2,.int .i64 0,.slice none 0 0,.slice none 0 0,.string ⟨#[]⟩,.int .i64 j][q]?:=fun W hW=>(c15.frm hW hne1).cell
   have C16:∀ W,Frm (fun b=>b=Z) wr W→∀ q,W.cell? ⟨G+1+1,q,none⟩=#[Value.int .i64 x,.slice X k1 d1,.slice X' k1' d1'][q]?:=fun W hW=>(c16.frm hW hne2).cell
   have hS0:Frm (fun b=>b=Z) wr wr.drew:=⟨rfl,rfl,rfl,Nat.le_refl _,fun _ _ _=>rfl⟩
   have hf8:=za (zhm wr (Z) (.int .i64 2) (.int .i64 0) (.slice none 0 0) (.slice none 0 0) (.string ⟨#[]⟩) (.int .i64 j))
   cases ho:o.isSome
   ·have Ho:=za ho
    rw [ho] at hflag
    exact yU10a4
   ·have hnlt:¬ ((j:Int)<(K:Int)):=fun h=>hgo ⟨ho,by omega⟩
    have Ho:=za ho
    exact yU10a4
end
def RetVd (w:World) (v:Vd) (e:Ending) (w':World):Prop:=
 ∃ (A:Option Addr) (n c:Nat) (A':Option Addr) (n' c':Nat),
  e=.returned (.agg #[.int .i64 v.code,.int .i64 v.asm.al,.slice A n c,.slice A' n' c',.string v.tr,.int .i64 v.ro])∧zO w' w.heap.size A n c A' n' c' v.asm∧Ext w w'
section
variable {w:World} {lo hi n c lo1 hi1 m d m' d' lo2 hi2 k c2:Nat} {A B B' C:Option Addr} {s t:Sys} {p:Aut}
theorem zcb {v:Vd} (HR:Hid (∀ W,Ext w W→Calls Tryz.prog 162 #[.agg #[.int .i64 s.al,.int .i64 s.st,.slice A n c],.agg #[.int .i64 t.al,.int .i64 t.st,.slice C k c2],.agg #[.int .i64 p.al,.slice B m d,.slice B' m' d'],.int .i64 12] W (zcf W v))) :
  Calls Tryz.prog 126 #[.agg #[.int .i64 s.al,.int .i64 s.st,.slice A n c],.agg #[.int .i64 t.al,.int .i64 t.st,.slice C k c2],.agg #[.int .i64 p.al,.slice B m d,.slice B' m' d']] w
   (RetVd w v):=by
 have hx0:Ext w ((((w.alloc (.cells #[.int .i64 s.al,.int .i64 s.st,.slice A n c] 39)).alloc (.cells #[.int .i64 t.al,.int .i64 t.st,.slice C k c2] 39)).alloc (.cells #[.int .i64 p.al,.slice B m d,.slice B' m' d'] 26)).alloc (.cells #[.int .i64 0,.int .i64 0,.slice none 0 0,.slice none 0 0,.string ⟨#[]⟩,.int .i64 0] 139)):=((((Ext.refl _).alloc _).alloc _).alloc _).alloc _
 obtain⟨b1,b2,b3⟩:=zV ((Ext.refl _).alloc _:Ext (((w.alloc (.cells #[.int .i64 s.al,.int .i64 s.st,.slice A n c] 39)).alloc (.cells #[.int .i64 t.al,.int .i64 t.st,.slice C k c2] 39)).alloc (.cells #[.int .i64 p.al,.slice B m d,.slice B' m' d'] 26)) ((((w.alloc (.cells #[.int .i64 s.al,.int .i64 s.st,.slice A n c] 39)).alloc (.cells #[.int .i64 t.al,.int .i64 t.st,.slice C k c2] 39)).alloc (.cells #[.int .i64 p.al,.slice B m d,.slice B' m' d'] 26)).alloc (.cells #[.int .i64 0,.int .i64 0,.slice none 0 0,.slice none 0 0,.string ⟨#[]⟩,.int .i64 0] 139)))
 have b6:=Blk.new (((w.alloc (.cells #[.int .i64 s.al,.int .i64 s.st,.slice A n c] 39)).alloc (.cells #[.int .i64 t.al,.int .i64 t.st,.slice C k c2] 39)).alloc (.cells #[.int .i64 p.al,.slice B m d,.slice B' m' d'] 26)) 139 #[.int .i64 0,.int .i64 0,.slice none 0 0,.slice none 0 0,.string ⟨#[]⟩,.int .i64 0]
 simp only [World.size_alloc] at b6
 go_enter Tryz.func126,Tryz.ntmps126
 go_upto_region 1 with fail
 generalize (((w.alloc (.cells #[.int .i64 s.al,.int .i64 s.st,.slice A n c] 39)).alloc (.cells #[.int .i64 t.al,.int .i64 t.st,.slice C k c2] 39)).alloc (.cells #[.int .i64 p.al,.slice B m d,.slice B' m' d'] 26)).alloc (.cells #[.int .i64 0,.int .i64 0,.slice none 0 0,.slice none 0 0,.string ⟨#[]⟩,.int .i64 0] 139)=w0 at *
 have c1:=b1.cell
 have cc2:=b2.cell
 have c3:=b3.cell
 go_upto_region 2 with (first
  |(go_at_call 162;refine (HR.out w0 hx0).mono ?_;rintro e w1 ⟨A1,n1,k1,A2,n2,k2,x,X,q1,d1,X',q1',d1',rfl,ho,hx1⟩;clear c1 cc2 c3))
 have hx2:=((Ext.refl w1).alloc (.cells #[.int .i64 v.code,.int .i64 v.asm.al,.slice A1 n1 k1,.slice A2 n2 k2,.string v.tr,.int .i64 v.ro] 139)).alloc (.cells #[.int .i64 x,.slice X q1 d1,.slice X' q1' d1'] 26)
 have b7:=(Blk.new w1 139 #[.int .i64 v.code,.int .i64 v.asm.al,.slice A1 n1 k1,.slice A2 n2 k2,.string v.tr,.int .i64 v.ro]).ext ((Ext.refl _).alloc (.cells #[.int .i64 x,.slice X q1 d1,.slice X' q1' d1'] 26))
 generalize (w1.alloc (.cells #[.int .i64 v.code,.int .i64 v.asm.al,.slice A1 n1 k1,.slice A2 n2 k2,.string v.tr,.int .i64 v.ro] 139)).alloc (.cells #[.int .i64 x,.slice X q1 d1,.slice X' q1' d1'] 26)=w2 at *
 have b62:=b6.ext (hx1.trans hx2)
 have k7:=b7.cell
 have k6:=b62.cell
 have f6:=b62.frozen
 have ho2:=ho.ext hx2
 have hf:=zhm w2 (w.heap.size+1+1+1) (.int .i64 v.code) (.int .i64 v.asm.al) (.slice A1 n1 k1) (.slice A2 n2 k2) (.string v.tr) (.int .i64 v.ro)
 have b63:Blk ((((((w2.setCell ⟨w.heap.size+1+1+1,0,none⟩ (.int .i64 v.code)).setCell ⟨w.heap.size+1+1+1,1,none⟩ (.int .i64 v.asm.al)).setCell ⟨w.heap.size+1+1+1,2,none⟩ (.slice A1 n1 k1)).setCell ⟨w.heap.size+1+1+1,3,none⟩ (.slice A2 n2 k2)).setCell ⟨w.heap.size+1+1+1,4,none⟩ (.string v.tr)).setCell ⟨w.heap.size+1+1+1,5,none⟩ (.int .i64 v.ro)) (w.heap.size+1+1+1) 139 #[.int .i64 v.code,.int .i64 v.asm.al,.slice A1 n1 k1,.slice A2 n2 k2,.string v.tr,.int .i64 v.ro]:=by
  simpa using (((((b62.set_ 0 (.int .i64 v.code)).set_ 1 (.int .i64 v.asm.al)).set_ 2 (.slice A1 n1 k1)).set_ 3 (.slice A2 n2 k2)).set_ 4 (.string v.tr)).set_ 5 (.int .i64 v.ro)
 have ho3:=(ho2.farT b62 hf (by decide)).less hx0.size
 have hx3:=(hx0.trans (hx1.trans hx2)).frm hf (fun k hk e=>by omega)
 have hret:=za (show RetVd w v (.returned (.agg #[.int .i64 v.code,.int .i64 v.asm.al,.slice A1 n1 k1,.slice A2 n2 k2,.string v.tr,.int .i64 v.ro])) _ from ⟨A1,n1,k1,A2,n2,k2,rfl,ho3,hx3⟩)
 have cf:=za b63
 clear b62 ho2 ho ho3 hx3 hf b63
 go_wp2_with fail
 have cf:=cf.out.cell
 exact bodyPost_ret (v:=.agg #[.int .i64 v.code,.int .i64 v.asm.al,.slice A1 n1 k1,.slice A2 n2 k2,.string v.tr,.int .i64 v.ro]) (by simp [results,Tryz.results126,go_sem,cf]) rfl hret.out
theorem zfO {L:Nat}(hs:zah w lo hi A n s)(hp:zM w lo1 hi1 B m B' m' p)(ht:zah w lo2 hi2 C k t)(hif:iface s p t=(L:Int))(hn:n≤1000000)(hhi:hi≤w.heap.size) :
  Calls Tryz.prog 126 #[.agg #[.int .i64 s.al,.int .i64 s.st,.slice A n c],.agg #[.int .i64 t.al,.int .i64 t.st,.slice C k c2],.agg #[.int .i64 p.al,.slice B m d,.slice B' m' d']] w
   (RetVd w (runT s t p L 12 0 ((zaE L (zu s p L) [⟨#[]⟩] 11 [⟨#[]⟩]).map fun r=>(r,[⟨#[]⟩])))):=
 zcb (za (fun W (hW:Ext w W)=>spec_l12Run (K:=12) (hs.ext hW) (hp.ext hW) (ht.ext hW) hif hn (Nat.le_trans hhi hW.size) (by omega)))
end
theorem runT_size {s t:Sys} {p:Aut} {L:Nat}(hL:L<64)(hst:zU [s,t]=true)(hp:zh p=true) (f:Nat):∀ (k:Nat) (o:Option (List ByteArray × List ByteArray)),zes L (zu s p L) o→(runT s t p L f k o).asm.size≤1048576∧(runT s t p L f k o).tr.size≤4000:=by
 induction f with
 |zero=>exact fun k o _=>⟨by show noA.size≤_;decide,Nat.zero_le _⟩
 |succ f ih =>
  intro k o ho
  match o with
  |none=>exact⟨by show noA.size≤_;decide,Nat.zero_le _⟩
  |some (rs,cs) =>
   obtain⟨hI,hcl⟩:=ho rs cs rfl
   rw [runT]
   split
   ·exact⟨zcq (zde hI hcl hL),Nat.zero_le _⟩
   ·split
    ·refine⟨by show noA.size≤_;decide,?_⟩
     have h:=(zev hst hp).2
     have h2:16 ^ [s,t].length*12=3072:=by simp
     show (zbe [s,t] p).size≤4000
     omega
    ·exact ih _ _ (zes.learn hI _)
theorem zW (W:World) (Z:Nat) (u0 u1 u2 u3 u4:Value):Frm (fun k=>k=Z) W (((((W.setCell ⟨Z,0,none⟩ u0).setCell ⟨Z,1,none⟩ u1).setCell ⟨Z,2,none⟩ u2).setCell ⟨Z,3,none⟩ u3).setCell ⟨Z,4,none⟩ u4):=
 ((((Frm.setCell W Z 0 u0).trans (Frm.setCell _ Z 1 u1)).trans (Frm.setCell _ Z 2 u2)).trans (Frm.setCell _ Z 3 u3)).trans (Frm.setCell _ Z 4 u4)
theorem zA {w:World} {Z:Nat} {cs:Array Value} {t:TypeId}(h:Blk w Z t cs)(hc:cs.size=5) (u0 u1 u2 u3 u4:Value):Blk (((((w.setCell ⟨Z,0,none⟩ u0).setCell ⟨Z,1,none⟩ u1).setCell ⟨Z,2,none⟩ u2).setCell ⟨Z,3,none⟩ u3).setCell ⟨Z,4,none⟩ u4) Z t #[u0,u1,u2,u3,u4]:=by
 obtain⟨l⟩:=cs
 match l,hc with
 |[a,b,c,d,e],_=>simpa using ((((h.set_ 0 u0).set_ 1 u1).set_ 2 u2).set_ 3 u3).set_ 4 u4
def zce (w:World) (hd:Bool) (a:Aut) (s:ByteArray) (b:Bool) (e:Ending) (w':World):Prop:=
 ∃ A n c A' n' c',e=.returned (.tuple #[.agg #[.bool hd,.int .i64 a.al,.slice A n c,.slice A' n' c',.string s],.bool b])∧zO w' w.heap.size A n c A' n' c' a∧Ext w w'
def aut0:Aut:=⟨0,[],[]⟩
theorem zar (w:World) (base:Nat):zO w base none 0 0 none 0 0 aut0:=⟨⟨[],World.ownsRow_nil _ _ _ _,zy.nil _ _⟩,rfl,World.ownsRow_nil _ _ _ _,rfl⟩
def okC (cd:Int) (a:Aut) (s:ByteArray):Bool:=(decide (cd=0) || decide (cd=1))&&zw (decide (cd=0)) a s
theorem okC0 (a:Aut) (s:ByteArray):okC 0 a s=zw true a s:=by simp [okC]
theorem okC1 (a:Aut) (s:ByteArray):okC 1 a s=zw false a s:=by simp [okC]
def NewC (w W:World) (G:Nat) (hd:Bool) (a:Aut) (s:ByteArray) (B:Option Addr) (m d:Nat) (B':Option Addr) (m' d':Nat):Prop:=
 Blk W G 28 #[.bool hd,.int .i64 a.al,.slice B m d,.slice B' m' d',.string s]∧zO W w.heap.size B m d B' m' d' a∧Ext w W∧w.heap.size≤G
theorem zO.own_far5 {w w':World} {base G:Nat} {A:Option Addr} {n c:Nat} {A':Option Addr} {n' c':Nat} {a:Aut} {cs:Array Value}(h:zO w base A n c A' n' c' a)(hB:Blk w G 28 cs)(hf:Frm (fun k=>k=G) w w'):zO w' base A n c A' n' c' a:=by
 obtain⟨⟨rows,h1,h2⟩,h3,h4,h5⟩:=h
 exact⟨⟨rows,zd h1 hf (fun b hb e=>zk h1 hB (by decide) hb e),h2.frm hf (fun i row b hr hb e=>by
  obtain⟨l,_,ho⟩:=h2.row hr
  exact zk ho hB (by decide) hb e)⟩,h3,zd h4 hf (fun b hb e=>zk h4 hB (by decide) hb e),h5⟩
theorem yU10a2 {P:Prop}(h:P:=by
 have c1:=fun W (hW:Ext w2 W)=>(b1.ext hW).cell
 have hww:=Ext.refl w2
 refine uR (fun X=>Ext w2 X) [10] (zK.app [0,1,2,3,4,6,7] (zK.two 5 (zK.of [8,9,10]) 9 (zK.of [5,8,10]))) ?_
 refine uQ ?_
 have hx0:Ext w2 w2.drew:=hww.drew
 generalize w2.drew=wd at *
 refine zD (fun K hK=>?_) (fun K hK=>?_)
 ·go_simp
  refine (zZ (HS.out _ (hw2.trans hx0)) hs).mono ?_
  rintro e w4 ⟨B,m,d,B',m',d',rfl,own4,hx4⟩
  replace own4:=own4.less hx0.size
  replace hx0:=hx0.trans hx4
  refine hK.out _ _ hx0 ?_
  refine pT ?_
  refine uQ ?_
  refine zb fun K hK=>?_;go_simp
  have hx1:=(Ext.refl w4).alloc (.cells #[.bool false,.int .i64 0,.slice none 0 0,.slice none 0 0,.string ⟨#[]⟩] 28)
  have hb:=Blk.new w4 28 #[.bool false,.int .i64 0,.slice none 0 0,.slice none 0 0,.string ⟨#[]⟩]
  have hG:=hx0.size
  replace own4:=own4.ext hx1
  replace hx0:=hx0.trans hx1
  refine hK.out _ _ hx0 ?_
  generalize w4.alloc (.cells #[.bool false,.int .i64 0,.slice none 0 0,.slice none 0 0,.string ⟨#[]⟩] 28)=wg at *
  generalize w4.heap.size=G at *
  refine pT ?_
  refine uQ ?_
  have cG:=hb.cell
  have fG:=hb.frozen
  refine zg fun K hK=>?_
  go_simp
  refine hK.out _ _ ?_
  refine zj ?_
  have hfl:=zW wg G (.bool true) (.int .i64 a.al) (.slice B m d) (.slice B' m' d') (.string s)
  have zhM:NewC w2 (((((wg.setCell ⟨G,0,none⟩ (.bool true)).setCell ⟨G,1,none⟩ (.int .i64 a.al)).setCell ⟨G,2,none⟩ (.slice B m d)).setCell ⟨G,3,none⟩ (.slice B' m' d')).setCell ⟨G,4,none⟩ (.string s)) G true a s B m d B' m' d':=⟨zA hb rfl _ _ _ _ _,own4.own_far5 hb hfl,hx0.frm hfl (fun k hk e=>by omega),hG⟩
  go_wp2_with fail
  go_meet
  exact⟨G,_,_,_,_,_,_,rfl,zhM⟩
 ·go_simp
  have hx1:=(Ext.refl wd).alloc (.cells #[.bool false,.int .i64 0,.slice none 0 0,.slice none 0 0,.string ⟨#[]⟩] 28)
  have hb:=Blk.new wd 28 #[.bool false,.int .i64 0,.slice none 0 0,.slice none 0 0,.string ⟨#[]⟩]
  have hG:=hx0.size
  replace hx0:=hx0.trans hx1
  refine hK.out _ _ hx0 ?_
  generalize wd.alloc (.cells #[.bool false,.int .i64 0,.slice none 0 0,.slice none 0 0,.string ⟨#[]⟩] 28)=wg at *
  generalize wd.heap.size=G at *
  refine pT ?_
  refine uQ ?_
  refine zb fun K hK=>?_;go_simp
  refine (zZ (HS.out _ (hw2.trans hx0)) hs).mono ?_
  rintro e w4 ⟨B,m,d,B',m',d',rfl,own4,hx4⟩
  replace own4:=own4.less hx0.size
  replace hb:=hb.ext hx4
  replace hx0:=hx0.trans hx4
  refine hK.out _ _ hx0 ?_
  refine pT ?_
  refine uQ ?_
  have cG:=hb.cell
  have fG:=hb.frozen
  refine zg fun K hK=>?_
  go_simp
  refine hK.out _ _ ?_
  refine zj ?_
  have hfl:=zW w4 G (.bool true) (.int .i64 a.al) (.slice B m d) (.slice B' m' d') (.string s)
  have zhM:NewC w2 (((((w4.setCell ⟨G,0,none⟩ (.bool true)).setCell ⟨G,1,none⟩ (.int .i64 a.al)).setCell ⟨G,2,none⟩ (.slice B m d)).setCell ⟨G,3,none⟩ (.slice B' m' d')).setCell ⟨G,4,none⟩ (.string s)) G true a s B m d B' m' d':=⟨zA hb rfl _ _ _ _ _,own4.own_far5 hb hfl,hx0.frm hfl (fun k hk e=>by omega),hG⟩
  go_wp2_with fail
  go_meet
  exact⟨G,_,_,_,_,_,_,rfl,zhM⟩
 ):P:=h
theorem zdq {lo hi:Nat} {A:Option Addr} {n c:Nat} {A':Option Addr} {n' c':Nat} {ro:Int} {a:Aut} {s:ByteArray} {w:World}(h:zM w lo hi A n A' n' a)(hs:a.size≤1048576)(hs9:s.size≤9223372036854775807)(hv:zw true a s=true) :
  Calls Tryz.prog 125 #[.agg #[.int .i64 0,.int .i64 a.al,.slice A n c,.slice A' n' c',.string s,.int .i64 ro]] w (zce w true a s true):=by
 have Hv:=za hv
 clear hv
 have HS:=za (fun W (hW:Ext w W)=>h.ext hW)
 have hss:=hs
 clear h
 go_enter Tryz.func125,Tryz.ntmps125
 obtain⟨b1,bz⟩:=zR (Ext.refl ((w.alloc (.cells #[.int .i64 0,.int .i64 a.al,.slice A n c,.slice A' n' c',.string s,.int .i64 ro] 139)).alloc (.cells #[.bool false,.int .i64 0,.slice none 0 0,.slice none 0 0,.string ⟨#[]⟩] 28)))
 have hw2:Ext w ((w.alloc (.cells #[.int .i64 0,.int .i64 a.al,.slice A n c,.slice A' n' c',.string s,.int .i64 ro] 139)).alloc (.cells #[.bool false,.int .i64 0,.slice none 0 0,.slice none 0 0,.string ⟨#[]⟩] 28)):=((Ext.refl w).alloc _).alloc _
 have hsz2:w.heap.size+2=((w.alloc (.cells #[.int .i64 0,.int .i64 a.al,.slice A n c,.slice A' n' c',.string s,.int .i64 ro] 139)).alloc (.cells #[.bool false,.int .i64 0,.slice none 0 0,.slice none 0 0,.string ⟨#[]⟩] 28)).heap.size:=by simp
 go_upto_region 1 with fail
 generalize (w.alloc (.cells #[.int .i64 0,.int .i64 a.al,.slice A n c,.slice A' n' c',.string s,.int .i64 ro] 139)).alloc (.cells #[.bool false,.int .i64 0,.slice none 0 0,.slice none 0 0,.string ⟨#[]⟩] 28)=w2 at *
 go_cut [4] (fun v wx=>∃ G B m d B' m' d',v=.pointer (some ⟨G,0,none⟩)∧NewC w2 wx G true a s B m d B' m' d')
 case first =>
  exact yU10a2
 case rest =>
  obtain⟨G,B,m,d,B',m',d',rfl,hb,own4,hx2,hG⟩:=hcut
  have kG:=hb.cell
  have k1:=(b1.ext hx2).cell
  go_wp2_with fail
  refine (zag _ _ _ _ _ _ _ _ _ _ _ _ own4.reads hs9).mono ?_
  rw [Hv.out]
  rintro e w5 ⟨rfl,hx5⟩
  clear kG k1
  replace hb:=hb.ext hx5
  replace own4:=own4.ext hx5
  replace hx2:=hx2.trans hx5
  have kG:=hb.cell
  have k1:=(b1.ext hx2).cell
  have hbz:=bz.ext hx2
  have cZ:=hbz.cell
  have fZ:=hbz.frozen
  have hfl:=zW w5 (w.heap.size+1) (.bool true) (.int .i64 a.al) (.slice B m d) (.slice B' m' d') (.string s)
  have hbf:=zA hbz rfl (.bool true) (.int .i64 a.al) (.slice B m d) (.slice B' m' d') (.string s)
  have hxf:=(hw2.trans hx2).frm hfl (fun k hk e=>by omega)
  have zhM:=za (show zce w true a s true (.returned (.tuple #[.agg #[.bool true,.int .i64 a.al,.slice B m d,.slice B' m' d',.string s],.bool true])) (((((w5.setCell ⟨w.heap.size+1,0,none⟩ (.bool true)).setCell ⟨w.heap.size+1,1,none⟩ (.int .i64 a.al)).setCell ⟨w.heap.size+1,2,none⟩ (.slice B m d)).setCell ⟨w.heap.size+1,3,none⟩ (.slice B' m' d')).setCell ⟨w.heap.size+1,4,none⟩ (.string s)) from ⟨B,m,d,B',m',d',rfl,(own4.keep hfl (fun b h1 e=>by omega)).less (by omega),hxf⟩)
  go_wp2_with fail
  generalize (((((w5.setCell ⟨w.heap.size+1,0,none⟩ (.bool true)).setCell ⟨w.heap.size+1,1,none⟩ (.int .i64 a.al)).setCell ⟨w.heap.size+1,2,none⟩ (.slice B m d)).setCell ⟨w.heap.size+1,3,none⟩ (.slice B' m' d')).setCell ⟨w.heap.size+1,4,none⟩ (.string s))=wf at *
  have cf:=hbf.cell
  exact bodyPost_ret (v:=.tuple #[.agg #[.bool true,.int .i64 a.al,.slice B m d,.slice B' m' d',.string s],.bool true]) (by simp [results,Tryz.results125,go_sem,cf]) rfl zhM.out
theorem yU10b1 {P:Prop}(h:P:=by
 have cf:=hbf.cell
 exact bodyPost_ret (v:=.tuple #[.agg #[.bool false,.int .i64 0,.slice none 0 0,.slice none 0 0,.string ⟨#[]⟩],.bool false]) (by simp [results,Tryz.results125,go_sem,cf]) rfl zhM.out
 ):P:=h
theorem yU10a3 {P:Prop}(h:P:=by
 obtain⟨G,B,m,d,B',m',d',rfl,hb,own4,hx2,hG⟩:=hcut
 have kG:=hb.cell
 have k1:=(b1.ext hx2).cell
 go_wp2_with fail
 refine (zag _ _ _ _ _ _ _ _ _ _ _ _ own4.reads hs9).mono ?_
 rw [Hv.out]
 rintro e w5 ⟨rfl,hx5⟩
 clear kG k1
 replace hb:=hb.ext hx5
 replace own4:=own4.ext hx5
 replace hx2:=hx2.trans hx5
 have kG:=hb.cell
 have k1:=(b1.ext hx2).cell
 have hbz:=bz.ext hx2
 have cZ:=hbz.cell
 have fZ:=hbz.frozen
 have hfl:=zW w5 (w.heap.size+1) (.bool false) (.int .i64 0) (.slice none 0 0) (.slice none 0 0) (.string ⟨#[]⟩)
 have hbf:=zA hbz rfl (.bool false) (.int .i64 0) (.slice none 0 0) (.slice none 0 0) (.string ⟨#[]⟩)
 have hxf:=(hw2.trans hx2).frm hfl (fun k hk e=>by omega)
 have zhM:=za (show zce w false aut0 ⟨#[]⟩ false (.returned (.tuple #[.agg #[.bool false,.int .i64 0,.slice none 0 0,.slice none 0 0,.string ⟨#[]⟩],.bool false])) (((((w5.setCell ⟨w.heap.size+1,0,none⟩ (.bool false)).setCell ⟨w.heap.size+1,1,none⟩ (.int .i64 0)).setCell ⟨w.heap.size+1,2,none⟩ (.slice none 0 0)).setCell ⟨w.heap.size+1,3,none⟩ (.slice none 0 0)).setCell ⟨w.heap.size+1,4,none⟩ (.string ⟨#[]⟩)) from ⟨none,0,0,none,0,0,rfl,zar _ _,hxf⟩)
 go_wp2_with fail
 generalize (((((w5.setCell ⟨w.heap.size+1,0,none⟩ (.bool false)).setCell ⟨w.heap.size+1,1,none⟩ (.int .i64 0)).setCell ⟨w.heap.size+1,2,none⟩ (.slice none 0 0)).setCell ⟨w.heap.size+1,3,none⟩ (.slice none 0 0)).setCell ⟨w.heap.size+1,4,none⟩ (.string ⟨#[]⟩))=wf at *
 exact yU10b1
 ):P:=h
theorem zdp {lo hi:Nat} {A:Option Addr} {n c:Nat} {A':Option Addr} {n' c':Nat} {ro:Int} {a:Aut} {s:ByteArray} {w:World}(h:zM w lo hi A n A' n' a)(hs:a.size≤1048576)(hs9:s.size≤9223372036854775807)(hv:zw true a s=false) :
  Calls Tryz.prog 125 #[.agg #[.int .i64 0,.int .i64 a.al,.slice A n c,.slice A' n' c',.string s,.int .i64 ro]] w (zce w false aut0 ⟨#[]⟩ false):=by
 have Hv:=za hv
 clear hv
 have HS:=za (fun W (hW:Ext w W)=>h.ext hW)
 have hss:=hs
 clear h
 go_enter Tryz.func125,Tryz.ntmps125
 obtain⟨b1,bz⟩:=zR (Ext.refl ((w.alloc (.cells #[.int .i64 0,.int .i64 a.al,.slice A n c,.slice A' n' c',.string s,.int .i64 ro] 139)).alloc (.cells #[.bool false,.int .i64 0,.slice none 0 0,.slice none 0 0,.string ⟨#[]⟩] 28)))
 have hw2:Ext w ((w.alloc (.cells #[.int .i64 0,.int .i64 a.al,.slice A n c,.slice A' n' c',.string s,.int .i64 ro] 139)).alloc (.cells #[.bool false,.int .i64 0,.slice none 0 0,.slice none 0 0,.string ⟨#[]⟩] 28)):=((Ext.refl w).alloc _).alloc _
 have hsz2:w.heap.size+2=((w.alloc (.cells #[.int .i64 0,.int .i64 a.al,.slice A n c,.slice A' n' c',.string s,.int .i64 ro] 139)).alloc (.cells #[.bool false,.int .i64 0,.slice none 0 0,.slice none 0 0,.string ⟨#[]⟩] 28)).heap.size:=by simp
 go_upto_region 1 with fail
 generalize (w.alloc (.cells #[.int .i64 0,.int .i64 a.al,.slice A n c,.slice A' n' c',.string s,.int .i64 ro] 139)).alloc (.cells #[.bool false,.int .i64 0,.slice none 0 0,.slice none 0 0,.string ⟨#[]⟩] 28)=w2 at *
 go_cut [4] (fun v wx=>∃ G B m d B' m' d',v=.pointer (some ⟨G,0,none⟩)∧NewC w2 wx G true a s B m d B' m' d')
 case first =>
  exact yU10a2
 case rest =>
  exact yU10a3
theorem yU10a1 {P:Prop}(h:P:=by
 have c1:=fun W (hW:Ext w2 W)=>(b1.ext hW).cell
 have hww:=Ext.refl w2
 refine uR (fun X=>Ext w2 X) [10] (zK.app [0,1,2,3,4,6,7] (zK.two 5 (zK.of [8,9,10]) 9 (zK.of [5,8,10]))) ?_
 refine uQ ?_
 have hx0:Ext w2 w2.drew:=hww.drew
 generalize w2.drew=wd at *
 refine zD (fun K hK=>?_) (fun K hK=>?_)
 ·go_simp
  refine (zZ (HS.out _ (hw2.trans hx0)) hs).mono ?_
  rintro e w4 ⟨B,m,d,B',m',d',rfl,own4,hx4⟩
  replace own4:=own4.less hx0.size
  replace hx0:=hx0.trans hx4
  refine hK.out _ _ hx0 ?_
  refine pT ?_
  refine uQ ?_
  refine zb fun K hK=>?_;go_simp
  have hx1:=(Ext.refl w4).alloc (.cells #[.bool false,.int .i64 0,.slice none 0 0,.slice none 0 0,.string ⟨#[]⟩] 28)
  have hb:=Blk.new w4 28 #[.bool false,.int .i64 0,.slice none 0 0,.slice none 0 0,.string ⟨#[]⟩]
  have hG:=hx0.size
  replace own4:=own4.ext hx1
  replace hx0:=hx0.trans hx1
  refine hK.out _ _ hx0 ?_
  generalize w4.alloc (.cells #[.bool false,.int .i64 0,.slice none 0 0,.slice none 0 0,.string ⟨#[]⟩] 28)=wg at *
  generalize w4.heap.size=G at *
  refine pT ?_
  refine uQ ?_
  have cG:=hb.cell
  have fG:=hb.frozen
  refine zg fun K hK=>?_
  go_simp
  refine hK.out _ _ ?_
  refine zj ?_
  have hfl:=zW wg G (.bool false) (.int .i64 a.al) (.slice B m d) (.slice B' m' d') (.string s)
  have zhM:NewC w2 (((((wg.setCell ⟨G,0,none⟩ (.bool false)).setCell ⟨G,1,none⟩ (.int .i64 a.al)).setCell ⟨G,2,none⟩ (.slice B m d)).setCell ⟨G,3,none⟩ (.slice B' m' d')).setCell ⟨G,4,none⟩ (.string s)) G false a s B m d B' m' d':=⟨zA hb rfl _ _ _ _ _,own4.own_far5 hb hfl,hx0.frm hfl (fun k hk e=>by omega),hG⟩
  go_wp2_with fail
  go_meet
  exact⟨G,_,_,_,_,_,_,rfl,zhM⟩
 ·go_simp
  have hx1:=(Ext.refl wd).alloc (.cells #[.bool false,.int .i64 0,.slice none 0 0,.slice none 0 0,.string ⟨#[]⟩] 28)
  have hb:=Blk.new wd 28 #[.bool false,.int .i64 0,.slice none 0 0,.slice none 0 0,.string ⟨#[]⟩]
  have hG:=hx0.size
  replace hx0:=hx0.trans hx1
  refine hK.out _ _ hx0 ?_
  generalize wd.alloc (.cells #[.bool false,.int .i64 0,.slice none 0 0,.slice none 0 0,.string ⟨#[]⟩] 28)=wg at *
  generalize wd.heap.size=G at *
  refine pT ?_
  refine uQ ?_
  refine zb fun K hK=>?_;go_simp
  refine (zZ (HS.out _ (hw2.trans hx0)) hs).mono ?_
  rintro e w4 ⟨B,m,d,B',m',d',rfl,own4,hx4⟩
  replace own4:=own4.less hx0.size
  replace hb:=hb.ext hx4
  replace hx0:=hx0.trans hx4
  refine hK.out _ _ hx0 ?_
  refine pT ?_
  refine uQ ?_
  have cG:=hb.cell
  have fG:=hb.frozen
  refine zg fun K hK=>?_
  go_simp
  refine hK.out _ _ ?_
  refine zj ?_
  have hfl:=zW w4 G (.bool false) (.int .i64 a.al) (.slice B m d) (.slice B' m' d') (.string s)
  have zhM:NewC w2 (((((w4.setCell ⟨G,0,none⟩ (.bool false)).setCell ⟨G,1,none⟩ (.int .i64 a.al)).setCell ⟨G,2,none⟩ (.slice B m d)).setCell ⟨G,3,none⟩ (.slice B' m' d')).setCell ⟨G,4,none⟩ (.string s)) G false a s B m d B' m' d':=⟨zA hb rfl _ _ _ _ _,own4.own_far5 hb hfl,hx0.frm hfl (fun k hk e=>by omega),hG⟩
  go_wp2_with fail
  go_meet
  exact⟨G,_,_,_,_,_,_,rfl,zhM⟩
 ):P:=h
theorem zds {lo hi:Nat} {A:Option Addr} {n c:Nat} {A':Option Addr} {n' c':Nat} {ro:Int} {a:Aut} {s:ByteArray} {w:World}(h:zM w lo hi A n A' n' a)(hs:a.size≤1048576)(hs9:s.size≤9223372036854775807)(hv:zw false a s=true) :
  Calls Tryz.prog 125 #[.agg #[.int .i64 1,.int .i64 a.al,.slice A n c,.slice A' n' c',.string s,.int .i64 ro]] w (zce w false a s true):=by
 have Hv:=za hv
 clear hv
 have HS:=za (fun W (hW:Ext w W)=>h.ext hW)
 have hss:=hs
 clear h
 go_enter Tryz.func125,Tryz.ntmps125
 obtain⟨b1,bz⟩:=zR (Ext.refl ((w.alloc (.cells #[.int .i64 1,.int .i64 a.al,.slice A n c,.slice A' n' c',.string s,.int .i64 ro] 139)).alloc (.cells #[.bool false,.int .i64 0,.slice none 0 0,.slice none 0 0,.string ⟨#[]⟩] 28)))
 have hw2:Ext w ((w.alloc (.cells #[.int .i64 1,.int .i64 a.al,.slice A n c,.slice A' n' c',.string s,.int .i64 ro] 139)).alloc (.cells #[.bool false,.int .i64 0,.slice none 0 0,.slice none 0 0,.string ⟨#[]⟩] 28)):=((Ext.refl w).alloc _).alloc _
 have hsz2:w.heap.size+2=((w.alloc (.cells #[.int .i64 1,.int .i64 a.al,.slice A n c,.slice A' n' c',.string s,.int .i64 ro] 139)).alloc (.cells #[.bool false,.int .i64 0,.slice none 0 0,.slice none 0 0,.string ⟨#[]⟩] 28)).heap.size:=by simp
 go_upto_region 1 with fail
 generalize (w.alloc (.cells #[.int .i64 1,.int .i64 a.al,.slice A n c,.slice A' n' c',.string s,.int .i64 ro] 139)).alloc (.cells #[.bool false,.int .i64 0,.slice none 0 0,.slice none 0 0,.string ⟨#[]⟩] 28)=w2 at *
 go_cut [4] (fun v wx=>∃ G B m d B' m' d',v=.pointer (some ⟨G,0,none⟩)∧NewC w2 wx G false a s B m d B' m' d')
 case first =>
  exact yU10a1
 case rest =>
  obtain⟨G,B,m,d,B',m',d',rfl,hb,own4,hx2,hG⟩:=hcut
  have kG:=hb.cell
  have k1:=(b1.ext hx2).cell
  go_wp2_with fail
  refine (zag _ _ _ _ _ _ _ _ _ _ _ _ own4.reads hs9).mono ?_
  rw [Hv.out]
  rintro e w5 ⟨rfl,hx5⟩
  clear kG k1
  replace hb:=hb.ext hx5
  replace own4:=own4.ext hx5
  replace hx2:=hx2.trans hx5
  have kG:=hb.cell
  have k1:=(b1.ext hx2).cell
  have hbz:=bz.ext hx2
  have cZ:=hbz.cell
  have fZ:=hbz.frozen
  have hfl:=zW w5 (w.heap.size+1) (.bool false) (.int .i64 a.al) (.slice B m d) (.slice B' m' d') (.string s)
  have hbf:=zA hbz rfl (.bool false) (.int .i64 a.al) (.slice B m d) (.slice B' m' d') (.string s)
  have hxf:=(hw2.trans hx2).frm hfl (fun k hk e=>by omega)
  have zhM:=za (show zce w false a s true (.returned (.tuple #[.agg #[.bool false,.int .i64 a.al,.slice B m d,.slice B' m' d',.string s],.bool true])) (((((w5.setCell ⟨w.heap.size+1,0,none⟩ (.bool false)).setCell ⟨w.heap.size+1,1,none⟩ (.int .i64 a.al)).setCell ⟨w.heap.size+1,2,none⟩ (.slice B m d)).setCell ⟨w.heap.size+1,3,none⟩ (.slice B' m' d')).setCell ⟨w.heap.size+1,4,none⟩ (.string s)) from ⟨B,m,d,B',m',d',rfl,(own4.keep hfl (fun b h1 e=>by omega)).less (by omega),hxf⟩)
  go_wp2_with fail
  generalize (((((w5.setCell ⟨w.heap.size+1,0,none⟩ (.bool false)).setCell ⟨w.heap.size+1,1,none⟩ (.int .i64 a.al)).setCell ⟨w.heap.size+1,2,none⟩ (.slice B m d)).setCell ⟨w.heap.size+1,3,none⟩ (.slice B' m' d')).setCell ⟨w.heap.size+1,4,none⟩ (.string s))=wf at *
  have cf:=hbf.cell
  exact bodyPost_ret (v:=.tuple #[.agg #[.bool false,.int .i64 a.al,.slice B m d,.slice B' m' d',.string s],.bool true]) (by simp [results,Tryz.results125,go_sem,cf]) rfl zhM.out
theorem zdr {lo hi:Nat} {A:Option Addr} {n c:Nat} {A':Option Addr} {n' c':Nat} {ro:Int} {a:Aut} {s:ByteArray} {w:World}(h:zM w lo hi A n A' n' a)(hs:a.size≤1048576)(hs9:s.size≤9223372036854775807)(hv:zw false a s=false) :
  Calls Tryz.prog 125 #[.agg #[.int .i64 1,.int .i64 a.al,.slice A n c,.slice A' n' c',.string s,.int .i64 ro]] w (zce w false aut0 ⟨#[]⟩ false):=by
 have Hv:=za hv
 clear hv
 have HS:=za (fun W (hW:Ext w W)=>h.ext hW)
 have hss:=hs
 clear h
 go_enter Tryz.func125,Tryz.ntmps125
 obtain⟨b1,bz⟩:=zR (Ext.refl ((w.alloc (.cells #[.int .i64 1,.int .i64 a.al,.slice A n c,.slice A' n' c',.string s,.int .i64 ro] 139)).alloc (.cells #[.bool false,.int .i64 0,.slice none 0 0,.slice none 0 0,.string ⟨#[]⟩] 28)))
 have hw2:Ext w ((w.alloc (.cells #[.int .i64 1,.int .i64 a.al,.slice A n c,.slice A' n' c',.string s,.int .i64 ro] 139)).alloc (.cells #[.bool false,.int .i64 0,.slice none 0 0,.slice none 0 0,.string ⟨#[]⟩] 28)):=((Ext.refl w).alloc _).alloc _
 have hsz2:w.heap.size+2=((w.alloc (.cells #[.int .i64 1,.int .i64 a.al,.slice A n c,.slice A' n' c',.string s,.int .i64 ro] 139)).alloc (.cells #[.bool false,.int .i64 0,.slice none 0 0,.slice none 0 0,.string ⟨#[]⟩] 28)).heap.size:=by simp
 go_upto_region 1 with fail
 generalize (w.alloc (.cells #[.int .i64 1,.int .i64 a.al,.slice A n c,.slice A' n' c',.string s,.int .i64 ro] 139)).alloc (.cells #[.bool false,.int .i64 0,.slice none 0 0,.slice none 0 0,.string ⟨#[]⟩] 28)=w2 at *
 go_cut [4] (fun v wx=>∃ G B m d B' m' d',v=.pointer (some ⟨G,0,none⟩)∧NewC w2 wx G false a s B m d B' m' d')
 case first =>
  exact yU10a1
 case rest =>
  exact yU10a3
theorem zdN {lo hi:Nat} {A:Option Addr} {n c:Nat} {A':Option Addr} {n' c':Nat} {cd ro:Int} {a:Aut} {s:ByteArray} {w:World}(h:zM w lo hi A n A' n' a)(hs:a.size≤1048576)(h0:cd≠0)(h1:cd≠1) :
  Calls Tryz.prog 125 #[.agg #[.int .i64 cd,.int .i64 a.al,.slice A n c,.slice A' n' c',.string s,.int .i64 ro]] w (zce w false aut0 ⟨#[]⟩ false):=by
 have hc0:(cd==0)=false:=by simpa using h0
 have hn0:(cd != 0)=true:=by simpa using h0
 have hn1:(cd != 1)=true:=by simpa using h1
 clear h0 h1
 have HS:=za (fun W (hW:Ext w W)=>h.ext hW)
 have hss:=hs
 clear h
 go_enter Tryz.func125,Tryz.ntmps125
 obtain⟨b1,bz⟩:=zR (Ext.refl ((w.alloc (.cells #[.int .i64 cd,.int .i64 a.al,.slice A n c,.slice A' n' c',.string s,.int .i64 ro] 139)).alloc (.cells #[.bool false,.int .i64 0,.slice none 0 0,.slice none 0 0,.string ⟨#[]⟩] 28)))
 have hw2:Ext w ((w.alloc (.cells #[.int .i64 cd,.int .i64 a.al,.slice A n c,.slice A' n' c',.string s,.int .i64 ro] 139)).alloc (.cells #[.bool false,.int .i64 0,.slice none 0 0,.slice none 0 0,.string ⟨#[]⟩] 28)):=((Ext.refl w).alloc _).alloc _
 have hsz2:w.heap.size+2=((w.alloc (.cells #[.int .i64 cd,.int .i64 a.al,.slice A n c,.slice A' n' c',.string s,.int .i64 ro] 139)).alloc (.cells #[.bool false,.int .i64 0,.slice none 0 0,.slice none 0 0,.string ⟨#[]⟩] 28)).heap.size:=by simp
 go_upto_region 1 with fail
 generalize (w.alloc (.cells #[.int .i64 cd,.int .i64 a.al,.slice A n c,.slice A' n' c',.string s,.int .i64 ro] 139)).alloc (.cells #[.bool false,.int .i64 0,.slice none 0 0,.slice none 0 0,.string ⟨#[]⟩] 28)=w2 at *
 go_cut [4] (fun v wx=>∃ G B m d B' m' d',v=.pointer (some ⟨G,0,none⟩)∧NewC w2 wx G false a s B m d B' m' d')
 case first =>
  exact yU10a1
 case rest =>
  obtain⟨G,B,m,d,B',m',d',rfl,hb,own4,hx2,hG⟩:=hcut
  have k1:=(b1.ext hx2).cell
  have hbz:=bz.ext hx2
  have cZ:=hbz.cell
  have fZ:=hbz.frozen
  have hfl:=zW wc (w.heap.size+1) (.bool false) (.int .i64 0) (.slice none 0 0) (.slice none 0 0) (.string ⟨#[]⟩)
  have hbf:=zA hbz rfl (.bool false) (.int .i64 0) (.slice none 0 0) (.slice none 0 0) (.string ⟨#[]⟩)
  have hxf:=(hw2.trans hx2).frm hfl (fun k hk e=>by omega)
  have zhM:=za (show zce w false aut0 ⟨#[]⟩ false (.returned (.tuple #[.agg #[.bool false,.int .i64 0,.slice none 0 0,.slice none 0 0,.string ⟨#[]⟩],.bool false])) (((((wc.setCell ⟨w.heap.size+1,0,none⟩ (.bool false)).setCell ⟨w.heap.size+1,1,none⟩ (.int .i64 0)).setCell ⟨w.heap.size+1,2,none⟩ (.slice none 0 0)).setCell ⟨w.heap.size+1,3,none⟩ (.slice none 0 0)).setCell ⟨w.heap.size+1,4,none⟩ (.string ⟨#[]⟩)) from ⟨none,0,0,none,0,0,rfl,zar _ _,hxf⟩)
  go_wp2_with fail
  generalize (((((wc.setCell ⟨w.heap.size+1,0,none⟩ (.bool false)).setCell ⟨w.heap.size+1,1,none⟩ (.int .i64 0)).setCell ⟨w.heap.size+1,2,none⟩ (.slice none 0 0)).setCell ⟨w.heap.size+1,3,none⟩ (.slice none 0 0)).setCell ⟨w.heap.size+1,4,none⟩ (.string ⟨#[]⟩))=wf at *
  exact yU10b1
def hdX (cd:Int) (a:Aut) (s:ByteArray):Bool:=okC cd a s&&decide (cd=0)
def autX (cd:Int) (a:Aut) (s:ByteArray):Aut:=if okC cd a s then a else aut0
def strX (cd:Int) (a:Aut) (s:ByteArray):ByteArray:=if okC cd a s then s else ⟨#[]⟩
theorem zem {lo hi:Nat} {A:Option Addr} {n c:Nat} {A':Option Addr} {n' c':Nat} {cd ro:Int} {a:Aut} {s:ByteArray} {w:World}(h:zM w lo hi A n A' n' a)(hs:a.size≤1048576)(hs9:s.size≤9223372036854775807) :
  Calls Tryz.prog 125 #[.agg #[.int .i64 cd,.int .i64 a.al,.slice A n c,.slice A' n' c',.string s,.int .i64 ro]] w (zce w (hdX cd a s) (autX cd a s) (strX cd a s) (okC cd a s)):=by
 by_cases h0:cd=0
 ·subst h0
  cases hv:zw true a s
  ·have:=zdp h hs hs9 hv (c:=c) (c':=c') (ro:=ro)
   simpa [hdX,autX,strX,okC0,hv] using this
  ·have:=zdq h hs hs9 hv (c:=c) (c':=c') (ro:=ro)
   simpa [hdX,autX,strX,okC0,hv] using this
 ·by_cases h1:cd=1
  ·subst h1
   cases hv:zw false a s
   ·have:=zdr h hs hs9 hv (c:=c) (c':=c') (ro:=ro)
    simpa [hdX,autX,strX,okC1,hv] using this
   ·have:=zds h hs hs9 hv (c:=c) (c':=c') (ro:=ro)
    simpa [hdX,autX,strX,okC1,hv] using this
  ·have:=zdN h hs h0 h1 (s:=s) (c:=c) (c':=c') (ro:=ro)
   simpa [hdX,autX,strX,okC,h0,h1] using this
section
variable {w:World} {lo hi n c lo1 hi1 m d m' d' lo2 hi2 k c2:Nat} {A B B' C:Option Addr} {s t:Sys} {p:Aut}
theorem zdO {v:Vd} (HR:Hid (∀ W,Ext w W→Calls Tryz.prog 126 #[.agg #[.int .i64 s.al,.int .i64 s.st,.slice A n c],.agg #[.int .i64 t.al,.int .i64 t.st,.slice C k c2],.agg #[.int .i64 p.al,.slice B m d,.slice B' m' d']] W (RetVd W v)))(hsz:Hid (v.asm.size≤1048576∧v.tr.size≤9223372036854775807)) :
  Calls Tryz.prog 74 #[.agg #[.int .i64 s.al,.int .i64 s.st,.slice A n c],.agg #[.int .i64 t.al,.int .i64 t.st,.slice C k c2],.agg #[.int .i64 p.al,.slice B m d,.slice B' m' d']] w
   (zce w (hdX v.code v.asm v.tr) (autX v.code v.asm v.tr) (strX v.code v.asm v.tr) (okC v.code v.asm v.tr)):=by
 have hx0:Ext w ((((w.alloc (.cells #[.int .i64 s.al,.int .i64 s.st,.slice A n c] 39)).alloc (.cells #[.int .i64 t.al,.int .i64 t.st,.slice C k c2] 39)).alloc (.cells #[.int .i64 p.al,.slice B m d,.slice B' m' d'] 26)).alloc (.cells #[.bool false,.int .i64 0,.slice none 0 0,.slice none 0 0,.string ⟨#[]⟩] 28)):=((((Ext.refl _).alloc _).alloc _).alloc _).alloc _
 obtain⟨b1,b2,b3⟩:=zV ((Ext.refl _).alloc _:Ext (((w.alloc (.cells #[.int .i64 s.al,.int .i64 s.st,.slice A n c] 39)).alloc (.cells #[.int .i64 t.al,.int .i64 t.st,.slice C k c2] 39)).alloc (.cells #[.int .i64 p.al,.slice B m d,.slice B' m' d'] 26)) ((((w.alloc (.cells #[.int .i64 s.al,.int .i64 s.st,.slice A n c] 39)).alloc (.cells #[.int .i64 t.al,.int .i64 t.st,.slice C k c2] 39)).alloc (.cells #[.int .i64 p.al,.slice B m d,.slice B' m' d'] 26)).alloc (.cells #[.bool false,.int .i64 0,.slice none 0 0,.slice none 0 0,.string ⟨#[]⟩] 28)))
 have b6:=Blk.new (((w.alloc (.cells #[.int .i64 s.al,.int .i64 s.st,.slice A n c] 39)).alloc (.cells #[.int .i64 t.al,.int .i64 t.st,.slice C k c2] 39)).alloc (.cells #[.int .i64 p.al,.slice B m d,.slice B' m' d'] 26)) 28 #[.bool false,.int .i64 0,.slice none 0 0,.slice none 0 0,.string ⟨#[]⟩]
 simp only [World.size_alloc] at b6
 go_enter Tryz.func74,Tryz.ntmps74
 go_upto_region 1 with fail
 generalize ((((w.alloc (.cells #[.int .i64 s.al,.int .i64 s.st,.slice A n c] 39)).alloc (.cells #[.int .i64 t.al,.int .i64 t.st,.slice C k c2] 39)).alloc (.cells #[.int .i64 p.al,.slice B m d,.slice B' m' d'] 26)).alloc (.cells #[.bool false,.int .i64 0,.slice none 0 0,.slice none 0 0,.string ⟨#[]⟩] 28))=w0 at *
 have c1:=b1.cell
 have cc2:=b2.cell
 have c3:=b3.cell
 have k6:∀ W,Ext w0 W→∀ q,W.cell? ⟨w.heap.size+1+1+1,q,none⟩=(#[.bool false,.int .i64 0,.slice none 0 0,.slice none 0 0,.string ⟨#[]⟩]:Array Value)[q]?:=fun W hW=>(b6.ext hW).cell
 have f6:∀ W,Ext w0 W→_:=fun W hW=>(b6.ext hW).frozen
 go_wp2_with (first
  |(go_at_call 126;refine (HR.out w0 hx0).mono ?_;rintro e w1 ⟨A1,n1,k1,A1',n1',k1',rfl,ho,hx1⟩;clear c1 cc2 c3)
  |(go_at_call 125;refine (zem ho.reads hsz.out.1 hsz.out.2).mono ?_;rintro e w2 ⟨A2,n2,k2,A3,n3,k3,rfl,ho2,hx2⟩;have hx12:=hx1.trans hx2;have b62:=b6.ext hx12;have k62:=b62.cell;have f62:=b62.frozen;clear k6 f6))
 have hf:Frm (fun b=>b=w.heap.size+1+1+1) w2 (((((w2.setCell ⟨w.heap.size+1+1+1,0,none⟩ (.bool (hdX v.code v.asm v.tr))).setCell ⟨w.heap.size+1+1+1,1,none⟩ (.int .i64 (autX v.code v.asm v.tr).al)).setCell ⟨w.heap.size+1+1+1,2,none⟩ (.slice A2 n2 k2)).setCell ⟨w.heap.size+1+1+1,3,none⟩ (.slice A3 n3 k3)).setCell ⟨w.heap.size+1+1+1,4,none⟩ (.string (strX v.code v.asm v.tr))):=((((Frm.setCell w2 _ 0 _).trans (Frm.setCell _ _ 1 _)).trans (Frm.setCell _ _ 2 _)).trans (Frm.setCell _ _ 3 _)).trans (Frm.setCell _ _ 4 _)
 have b63:Blk (((((w2.setCell ⟨w.heap.size+1+1+1,0,none⟩ (.bool (hdX v.code v.asm v.tr))).setCell ⟨w.heap.size+1+1+1,1,none⟩ (.int .i64 (autX v.code v.asm v.tr).al)).setCell ⟨w.heap.size+1+1+1,2,none⟩ (.slice A2 n2 k2)).setCell ⟨w.heap.size+1+1+1,3,none⟩ (.slice A3 n3 k3)).setCell ⟨w.heap.size+1+1+1,4,none⟩ (.string (strX v.code v.asm v.tr))) (w.heap.size+1+1+1) 28 #[.bool (hdX v.code v.asm v.tr),.int .i64 (autX v.code v.asm v.tr).al,.slice A2 n2 k2,.slice A3 n3 k3,.string (strX v.code v.asm v.tr)]:=by
  simpa using ((((b62.set_ 0 (.bool (hdX v.code v.asm v.tr))).set_ 1 (.int .i64 (autX v.code v.asm v.tr).al)).set_ 2 (.slice A2 n2 k2)).set_ 3 (.slice A3 n3 k3)).set_ 4 (.string (strX v.code v.asm v.tr))
 have ho3:=(ho2.farT b62 hf (by decide)).less (show w.heap.size≤w1.heap.size by have:=hx0.size;have:=hx1.size;omega)
 have hx3:=(hx0.trans hx12).frm hf (fun k hk e=>by omega)
 have cf:=b63.cell
 exact bodyPost_ret (v:=.tuple #[.agg #[.bool (hdX v.code v.asm v.tr),.int .i64 (autX v.code v.asm v.tr).al,.slice A2 n2 k2,.slice A3 n3 k3,.string (strX v.code v.asm v.tr)],.bool (okC v.code v.asm v.tr)]) (by simp [results,Tryz.results74,go_sem,cf]) rfl ⟨A2,n2,k2,A3,n3,k3,rfl,ho3,hx3⟩
end
theorem zcu (s t:Sys) (p:Aut):iface s p t = -1∨∃ L:Nat,iface s p t=(L:Int):=by
 unfold iface
 split
 ·exact .inr ⟨_,rfl⟩
 ·exact .inl rfl
section
variable {w:World} {lo hi n c lo1 hi1 m d m' d' lo2 hi2 k c2:Nat} {A B B' C:Option Addr} {s t:Sys} {p:Aut}
theorem spec_TaskOf0 (hs:zah w lo hi A n s)(hp:zM w lo1 hi1 B m B' m' p)(ht:zah w lo2 hi2 C k t)(hif:iface s p t = -1) :
  Calls Tryz.prog 191 #[.agg #[.int .i64 s.al,.int .i64 s.st,.slice A n c],.agg #[.int .i64 p.al,.slice B m d,.slice B' m' d'],.agg #[.int .i64 t.al,.int .i64 t.st,.slice C k c2]] w
   fun e w'=>e=.returned (.tuple #[.agg #[.int .i64 0,.int .i64 0,.slice none 0 0,.int .i64 0,.slice none 0 0,.slice none 0 0,.int .i64 0],.bool false])∧Ext w w':=by
 have HIf:=za (fun W (hW:Ext w W)=>zbD (c:=c) (d1:=d) (d1':=d') (c2:=c2) (hs.ext hW) (hp.ext hW) (ht.ext hW))
 rw [hif] at HIf
 clear hs hp ht hif
 have hx0:Ext w ((((w.alloc (.cells #[.int .i64 s.al,.int .i64 s.st,.slice A n c] 39)).alloc (.cells #[.int .i64 p.al,.slice B m d,.slice B' m' d'] 26)).alloc (.cells #[.int .i64 t.al,.int .i64 t.st,.slice C k c2] 39)).alloc (.cells #[.int .i64 0,.int .i64 0,.slice none 0 0,.int .i64 0,.slice none 0 0,.slice none 0 0,.int .i64 0] 199)):=((((Ext.refl _).alloc _).alloc _).alloc _).alloc _
 obtain⟨b1,b2,b3⟩:=zV ((Ext.refl _).alloc _:Ext (((w.alloc (.cells #[.int .i64 s.al,.int .i64 s.st,.slice A n c] 39)).alloc (.cells #[.int .i64 p.al,.slice B m d,.slice B' m' d'] 26)).alloc (.cells #[.int .i64 t.al,.int .i64 t.st,.slice C k c2] 39)) ((((w.alloc (.cells #[.int .i64 s.al,.int .i64 s.st,.slice A n c] 39)).alloc (.cells #[.int .i64 p.al,.slice B m d,.slice B' m' d'] 26)).alloc (.cells #[.int .i64 t.al,.int .i64 t.st,.slice C k c2] 39)).alloc (.cells #[.int .i64 0,.int .i64 0,.slice none 0 0,.int .i64 0,.slice none 0 0,.slice none 0 0,.int .i64 0] 199)))
 have b4:=Blk.new (((w.alloc (.cells #[.int .i64 s.al,.int .i64 s.st,.slice A n c] 39)).alloc (.cells #[.int .i64 p.al,.slice B m d,.slice B' m' d'] 26)).alloc (.cells #[.int .i64 t.al,.int .i64 t.st,.slice C k c2] 39)) 199 #[.int .i64 0,.int .i64 0,.slice none 0 0,.int .i64 0,.slice none 0 0,.slice none 0 0,.int .i64 0]
 simp only [World.size_alloc] at b4
 go_enter Tryz.func191,Tryz.ntmps191
 go_upto_region 1 with fail
 generalize (((w.alloc (.cells #[.int .i64 s.al,.int .i64 s.st,.slice A n c] 39)).alloc (.cells #[.int .i64 p.al,.slice B m d,.slice B' m' d'] 26)).alloc (.cells #[.int .i64 t.al,.int .i64 t.st,.slice C k c2] 39)).alloc (.cells #[.int .i64 0,.int .i64 0,.slice none 0 0,.int .i64 0,.slice none 0 0,.slice none 0 0,.int .i64 0] 199)=w0 at *
 have CS:=b1.cells
 have CP:=b2.cells
 have CT:=b3.cells
 have hww:=Ext.refl w0
 go_upto_region 3 with (first
  |(go_at_call 45;refine (HIf.out _ hx0).mono ?_;rintro e w1 ⟨rfl,hx01⟩))
 have bz:=b4.ext hx01
 have kz:=bz.cell
 have fz:=bz.frozen
 have hxw:=hx0.trans hx01
 have hf:Frm (fun k=>k=w.heap.size+1+1+1) w1 (((((((w1.setCell ⟨w.heap.size+1+1+1,0,none⟩ (.int .i64 0)).setCell ⟨w.heap.size+1+1+1,1,none⟩ (.int .i64 0)).setCell ⟨w.heap.size+1+1+1,2,none⟩ (.slice none 0 0)).setCell ⟨w.heap.size+1+1+1,3,none⟩ (.int .i64 0)).setCell ⟨w.heap.size+1+1+1,4,none⟩ (.slice none 0 0)).setCell ⟨w.heap.size+1+1+1,5,none⟩ (.slice none 0 0)).setCell ⟨w.heap.size+1+1+1,6,none⟩ (.int .i64 0)):=
  ((((((Frm.setCell w1 _ 0 _).trans (Frm.setCell _ _ 1 _)).trans (Frm.setCell _ _ 2 _)).trans (Frm.setCell _ _ 3 _)).trans (Frm.setCell _ _ 4 _)).trans (Frm.setCell _ _ 5 _)).trans (Frm.setCell _ _ 6 _)
 have bW:Blk (((((((w1.setCell ⟨w.heap.size+1+1+1,0,none⟩ (.int .i64 0)).setCell ⟨w.heap.size+1+1+1,1,none⟩ (.int .i64 0)).setCell ⟨w.heap.size+1+1+1,2,none⟩ (.slice none 0 0)).setCell ⟨w.heap.size+1+1+1,3,none⟩ (.int .i64 0)).setCell ⟨w.heap.size+1+1+1,4,none⟩ (.slice none 0 0)).setCell ⟨w.heap.size+1+1+1,5,none⟩ (.slice none 0 0)).setCell ⟨w.heap.size+1+1+1,6,none⟩ (.int .i64 0)) (w.heap.size+1+1+1) 199 #[.int .i64 0,.int .i64 0,.slice none 0 0,.int .i64 0,.slice none 0 0,.slice none 0 0,.int .i64 0]:=by
  simpa using ((((((bz.set_ 0 (.int .i64 0)).set_ 1 (.int .i64 0)).set_ 2 (.slice none 0 0)).set_ 3 (.int .i64 0)).set_ 4 (.slice none 0 0)).set_ 5 (.slice none 0 0)).set_ 6 (.int .i64 0)
 have hret:=za (hxw.frm hf (fun k hk e=>by omega))
 go_wp2_with fail
 generalize (((((((w1.setCell ⟨w.heap.size+1+1+1,0,none⟩ (.int .i64 0)).setCell ⟨w.heap.size+1+1+1,1,none⟩ (.int .i64 0)).setCell ⟨w.heap.size+1+1+1,2,none⟩ (.slice none 0 0)).setCell ⟨w.heap.size+1+1+1,3,none⟩ (.int .i64 0)).setCell ⟨w.heap.size+1+1+1,4,none⟩ (.slice none 0 0)).setCell ⟨w.heap.size+1+1+1,5,none⟩ (.slice none 0 0)).setCell ⟨w.heap.size+1+1+1,6,none⟩ (.int .i64 0))=W at *
 have cf:=bW.cell
 exact bodyPost_ret (v:=.tuple #[.agg #[.int .i64 0,.int .i64 0,.slice none 0 0,.int .i64 0,.slice none 0 0,.slice none 0 0,.int .i64 0],.bool false]) (by simp [results,Tryz.results191,go_sem,cf]) rfl ⟨rfl,hret.out⟩
theorem spec_l12Run0 {K:Nat}(hs:zah w lo hi A n s)(hp:zM w lo1 hi1 B m B' m' p)(ht:zah w lo2 hi2 C k t)(hif:iface s p t = -1) :
  Calls Tryz.prog 162 #[.agg #[.int .i64 s.al,.int .i64 s.st,.slice A n c],.agg #[.int .i64 t.al,.int .i64 t.st,.slice C k c2],.agg #[.int .i64 p.al,.slice B m d,.slice B' m' d'],.int .i64 K] w (zcf w ⟨3,noA,⟨#[]⟩,0⟩):=by
 have HT:=za (fun W (hW:Ext w W)=>spec_TaskOf0 (c:=c) (d:=d) (d':=d') (c2:=c2) (hs.ext hW) (hp.ext hW) (ht.ext hW) hif)
 clear hs hp ht hif
 have hx0:Ext w (((((w.alloc (.cells #[.int .i64 s.al,.int .i64 s.st,.slice A n c] 39)).alloc (.cells #[.int .i64 t.al,.int .i64 t.st,.slice C k c2] 39)).alloc (.cells #[.int .i64 p.al,.slice B m d,.slice B' m' d'] 26)).alloc (.cells #[.int .i64 0,.int .i64 0,.slice none 0 0,.slice none 0 0,.string ⟨#[]⟩,.int .i64 0] 139)).alloc (.cells #[.int .i64 0,.slice none 0 0,.slice none 0 0] 26)):=(((((Ext.refl _).alloc _).alloc _).alloc _).alloc _).alloc _
 obtain⟨b1,b2,b3⟩:=zV (((Ext.refl _).alloc _).alloc _:Ext (((w.alloc (.cells #[.int .i64 s.al,.int .i64 s.st,.slice A n c] 39)).alloc (.cells #[.int .i64 t.al,.int .i64 t.st,.slice C k c2] 39)).alloc (.cells #[.int .i64 p.al,.slice B m d,.slice B' m' d'] 26)) (((((w.alloc (.cells #[.int .i64 s.al,.int .i64 s.st,.slice A n c] 39)).alloc (.cells #[.int .i64 t.al,.int .i64 t.st,.slice C k c2] 39)).alloc (.cells #[.int .i64 p.al,.slice B m d,.slice B' m' d'] 26)).alloc (.cells #[.int .i64 0,.int .i64 0,.slice none 0 0,.slice none 0 0,.string ⟨#[]⟩,.int .i64 0] 139)).alloc (.cells #[.int .i64 0,.slice none 0 0,.slice none 0 0] 26)))
 have b4:=(Blk.new (((w.alloc (.cells #[.int .i64 s.al,.int .i64 s.st,.slice A n c] 39)).alloc (.cells #[.int .i64 t.al,.int .i64 t.st,.slice C k c2] 39)).alloc (.cells #[.int .i64 p.al,.slice B m d,.slice B' m' d'] 26)) 139 #[.int .i64 0,.int .i64 0,.slice none 0 0,.slice none 0 0,.string ⟨#[]⟩,.int .i64 0]).ext ((Ext.refl _).alloc (.cells #[.int .i64 0,.slice none 0 0,.slice none 0 0] 26))
 have b5:=Blk.new ((((w.alloc (.cells #[.int .i64 s.al,.int .i64 s.st,.slice A n c] 39)).alloc (.cells #[.int .i64 t.al,.int .i64 t.st,.slice C k c2] 39)).alloc (.cells #[.int .i64 p.al,.slice B m d,.slice B' m' d'] 26)).alloc (.cells #[.int .i64 0,.int .i64 0,.slice none 0 0,.slice none 0 0,.string ⟨#[]⟩,.int .i64 0] 139)) 26 #[.int .i64 0,.slice none 0 0,.slice none 0 0]
 simp only [World.size_alloc] at b4 b5
 go_enter Tryz.func162,Tryz.ntmps162
 go_upto_region 1 with fail
 generalize ((((w.alloc (.cells #[.int .i64 s.al,.int .i64 s.st,.slice A n c] 39)).alloc (.cells #[.int .i64 t.al,.int .i64 t.st,.slice C k c2] 39)).alloc (.cells #[.int .i64 p.al,.slice B m d,.slice B' m' d'] 26)).alloc (.cells #[.int .i64 0,.int .i64 0,.slice none 0 0,.slice none 0 0,.string ⟨#[]⟩,.int .i64 0] 139)).alloc (.cells #[.int .i64 0,.slice none 0 0,.slice none 0 0] 26)=w0 at *
 have CS:=b1.cells
 have CT:=b2.cells
 have CP:=b3.cells
 have hww:=Ext.refl w0
 go_upto_region 2 with (first
  |(go_at_call 191;refine (HT.out _ hx0).mono ?_;rintro e w1 ⟨rfl,hx01⟩))
 have hx2:Ext w0 (w1.alloc (.cells #[.int .i64 0,.int .i64 0,.slice none 0 0,.int .i64 0,.slice none 0 0,.slice none 0 0,.int .i64 0] 199)):=hx01.alloc _
 generalize w1.alloc (.cells #[.int .i64 0,.int .i64 0,.slice none 0 0,.int .i64 0,.slice none 0 0,.slice none 0 0,.int .i64 0] 199)=w2 at *
 have bz:=b4.ext hx2
 have kz:=bz.cell
 have fz:=bz.frozen
 have bu:=b5.ext hx2
 have ku:=bu.cell
 have fu:=bu.frozen
 obtain⟨f1,f2,f3⟩:=zfl (v:=⟨3,noA,⟨#[]⟩,0⟩) (A:=none) (n:=0) (c:=0) (A':=none) (n':=0) (c':=0) (x:=0) (X:=none) (k1:=0) (d1:=0) (X':=none) (k1':=0) (d1':=0) (hx0.trans hx2) bz bu rfl rfl (by omega) (zar _ _)
 dsimp only [noA] at f1 f2 f3
 have F2:=za f2
 have F3:=za f3
 clear f2 f3 bz bu b1 b2 b3 b4 b5
 go_wp2_with fail
 generalize (((((((((w2.setCell ⟨w.heap.size+1+1+1,0,none⟩ (.int .i64 3)).setCell ⟨w.heap.size+1+1+1,1,none⟩ (.int .i64 0)).setCell ⟨w.heap.size+1+1+1,2,none⟩ (.slice none 0 0)).setCell ⟨w.heap.size+1+1+1,3,none⟩ (.slice none 0 0)).setCell ⟨w.heap.size+1+1+1,4,none⟩ (.string ⟨#[]⟩)).setCell ⟨w.heap.size+1+1+1,5,none⟩ (.int .i64 0)).setCell ⟨w.heap.size+1+1+1+1,0,none⟩ (.int .i64 0)).setCell ⟨w.heap.size+1+1+1+1,1,none⟩ (.slice none 0 0)).setCell ⟨w.heap.size+1+1+1+1,2,none⟩ (.slice none 0 0))=W at *
 have cf2:=F2.out.cell
 have cf3:=F3.out.cell
 exact bodyPost_ret (v:=.tuple #[.agg #[.int .i64 3,.int .i64 0,.slice none 0 0,.slice none 0 0,.string ⟨#[]⟩,.int .i64 0],.agg #[.int .i64 0,.slice none 0 0,.slice none 0 0]]) (by simp [results,Tryz.results162,go_sem,cf2,cf3]) rfl f1.out
end
noncomputable def vpT (s t:Sys) (p:Aut):Vd:=
 if iface s p t<0 then ⟨3,noA,⟨#[]⟩,0⟩ else runT s t p (iface s p t).toNat 12 0 ((zaE (iface s p t).toNat (zu s p (iface s p t).toNat) [⟨#[]⟩] 11 [⟨#[]⟩]).map fun r=>(r,[⟨#[]⟩]))
theorem vpT_neg {s t:Sys} {p:Aut}(h:iface s p t = -1):vpT s t p=⟨3,noA,⟨#[]⟩,0⟩:=by unfold vpT;rw [if_pos (by omega)]
theorem vpT_pos {s t:Sys} {p:Aut} {L:Nat}(h:iface s p t=(L:Int)):vpT s t p=runT s t p L 12 0 ((zaE L (zu s p L) [⟨#[]⟩] 11 [⟨#[]⟩]).map fun r=>(r,[⟨#[]⟩])):=by
 have e:(iface s p t).toNat=L:=by omega
 unfold vpT
 rw [if_neg (by omega),e]
theorem zgZ {s t:Sys} {p:Aut} {L:Nat}(h:iface s p t=(L:Int)):L<64:=by
 obtain⟨vs,vp,vt⟩:=zeg (show 0≤iface s p t by omega)
 rw [iface_nat vs vp vt] at h
 have h1:=zai vt
 have h2:((s.al.toNat|||p.al.toNat)&&&t.al.toNat)≤t.al.toNat:=Nat.and_le_right
 omega
theorem zhH (s t:Sys) (p:Aut):(vpT s t p).asm.size≤1048576∧(vpT s t p).tr.size≤4000:=by
 rcases zcu s t p with h|⟨L,h⟩
 ·rw [vpT_neg h];exact⟨by show noA.size≤_;decide,Nat.zero_le _⟩
 ·rw [vpT_pos h]
  obtain⟨vs,vp,vt⟩:=zeg (show 0≤iface s p t by omega)
  exact runT_size (zgZ h) (by simp [zU,vs,vt]) vp 12 0 _ (zes.new L _)
theorem runT_asm {s t:Sys} {p:Aut} {L:Nat}(hL:L<64) (f:Nat):∀ (k:Nat) (o:Option (List ByteArray × List ByteArray)),zes L (zu s p L) o→zh (runT s t p L f k o).asm=true∨(runT s t p L f k o).asm=noA:=by
 induction f with
 |zero=>exact fun k o _=>.inr rfl
 |succ f ih =>
  intro k o ho
  match o with
  |none=>exact .inr rfl
  |some (rs,cs) =>
   obtain⟨hI,hcl⟩:=ho rs cs rfl
   rw [runT]
   split
   ·exact .inl (zde hI hcl hL)
   ·split
    ·exact .inr rfl
    ·exact ih _ _ (zes.learn hI _)
theorem vpT_asm (s t:Sys) (p:Aut):zh (vpT s t p).asm=true∨(vpT s t p).asm=noA:=by
 rcases zcu s t p with h|⟨L,h⟩
 ·rw [vpT_neg h];exact .inr rfl
 ·rw [vpT_pos h]
  exact runT_asm (zgZ h) 12 0 _ (zes.new L _)
section
variable {w:World} {lo hi n c lo1 hi1 m d m' d' lo2 hi2 k c2:Nat} {A B B' C:Option Addr} {s t:Sys} {p:Aut}
theorem zfb (hs:zah w lo hi A n s)(hp:zM w lo1 hi1 B m B' m' p)(ht:zah w lo2 hi2 C k t)(hn:n≤1000000)(hhi:hi≤w.heap.size) :
  Calls Tryz.prog 126 #[.agg #[.int .i64 s.al,.int .i64 s.st,.slice A n c],.agg #[.int .i64 t.al,.int .i64 t.st,.slice C k c2],.agg #[.int .i64 p.al,.slice B m d,.slice B' m' d']] w
   (RetVd w (vpT s t p)):=by
 rcases zcu s t p with h|⟨L,h⟩
 ·rw [vpT_neg h]
  exact zcb (za (fun W (hW:Ext w W)=>spec_l12Run0 (K:=12) (hs.ext hW) (hp.ext hW) (ht.ext hW) h))
 ·rw [vpT_pos h]
  exact zfO hs hp ht h hn hhi
theorem zeB (hs:zah w lo hi A n s)(hp:zM w lo1 hi1 B m B' m' p)(ht:zah w lo2 hi2 C k t)(hn:n≤1000000)(hhi:hi≤w.heap.size) :
  Calls Tryz.prog 74 #[.agg #[.int .i64 s.al,.int .i64 s.st,.slice A n c],.agg #[.int .i64 t.al,.int .i64 t.st,.slice C k c2],.agg #[.int .i64 p.al,.slice B m d,.slice B' m' d']] w
   (zce w (hdX (vpT s t p).code (vpT s t p).asm (vpT s t p).tr) (autX (vpT s t p).code (vpT s t p).asm (vpT s t p).tr) (strX (vpT s t p).code (vpT s t p).asm (vpT s t p).tr) (okC (vpT s t p).code (vpT s t p).asm (vpT s t p).tr)):=
 zdO (za (fun W (hW:Ext w W)=>zfb (hs.ext hW) (hp.ext hW) (ht.ext hW) hn (Nat.le_trans hhi hW.size))) (za ⟨(zhH s t p).1,Nat.le_trans (zhH s t p).2 (by omega)⟩)
end
end Go.Proofs.YtfcjhpodichpjaaGreatDoor
