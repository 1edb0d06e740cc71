/- The words th -/
import Derived.Test.YtckbjnndaaoddaaGreatDoorF11
set_option maxHeartbeats 4000000
set_option maxRecDepth 100000
namespace Go.Proofs.YtckbjnndaaoddaaGreatDoor
open Go Go.RowKit
open Blk renaming new->dU
open Bool renaming and_eq_true->dF,or_eq_true->gA
open Ext renaming al_->gC,bl_->dV,eq_->gJ,refl->cY,x2_->gV
open Frm renaming setCell->dE
open Int renaming cast_ofNat_Int->iA,natCast_add->gO,toNat_natCast->eJ
open List renaming all_eq_true->eC,getD_eq_getElem?_getD->dH,getElem?_eq_getElem->dC,getElem?_map->dQ,length_drop->iO,mem_cons_of_mem->fM,mem_cons_self->gD,mem_of_getElem?->dB,take_of_length_le->dI
open Nat renaming add_assoc->eQ,le_refl->dD,le_trans->dK,mul_le_mul->eM,testBit_and->iF,zero_le->dG
open Reads renaming af->dY
variable {A A' C:Option Addr} {K L Z b c c' g hi j k l lo n n' q:Nat} {W w w0:World} {a p:Aut} {e:Ending} {r x:ByteArray} {s t:Sys} {ss:List Sys} {v:List Nat} {vs:Array Value}
section
variable {d:Nat->Nat->List Nat} {start L:List Nat} {goal:Nat->Bool} {N:Nat}
theorem zgx (h:¬ Lost d start goal L):∃ v,Found d start goal L v:=by
 have h1:∃ v,(∀ l∈v,l∈L)∧∃ x,zbm d start v x∧goal x=true:=by
  apply Classical.byContradiction;intro hn;apply h;intro v hv x b;cases hg:goal x with
  |false=>rfl
  |true=>exact absurd ⟨v,hv,x,b,hg⟩ hn
 have g:∀ n v,zcc v=n->(∀ l∈v,l∈L)->(∃ x,zbm d start v x∧goal x=true)->∃ v,Found d start goal L v:=by
  intro n
  induction n using Nat.strongRecOn with
  |ind n ih =>
   intro v hn hv b
   by_cases hm:∃ u,(∀ l∈u,l∈L)∧zcc u<zcc v∧∃ x,zbm d start u x∧goal x=true
   ·obtain⟨u,c,a,f⟩:=hm;exact ih (zcc u) oM u rfl c f
   ·refine⟨v,hv,b,fun u c a x hgx=>?_⟩;cases hg:goal x with
    |false=>rfl
    |true=>exact absurd ⟨u,c,a,x,hgx,hg⟩ hm
 obtain⟨v,hv,b⟩:=h1;exact g _ v rfl hv b
theorem found_len (h:Found d [0] goal L v)(h6:∀ l∈L,l<6)(hN:0<N)(hd:∀ x l,x<N->l∈L->∀ y∈d x l,y<N):v.length<N:=by
 obtain⟨hv,⟨x,D,s⟩,b⟩:=h;obtain⟨F,r,i⟩:=zbm.dn (L:=L) (v:=[]) (u:=v) (goal:=goal) (by simpa using D) s hv;have p:F=0:=by have:=r.ah;simpa using this
 subst p;have j:∃ n,Mn d L goal n 0∧n<=v.length:=by
  have q:∀ n,Dn d L goal n 0->∃ m,Mn d L goal m 0∧m<=n:=by
   intro n
   induction n using Nat.strongRecOn with
   |ind n ih =>
    intro g
    by_cases f:∃ m,m<n∧Dn d L goal m 0
    ·obtain⟨m,a,f⟩:=f;obtain⟨k,h1,h2⟩:=ih m a f;exact⟨k,h1,oM⟩
    ·exact⟨n,⟨g,fun m a hm'=>f ⟨m,a,hm'⟩⟩,dD _⟩
  exact q _ i
 obtain⟨n,g,-⟩:=j;have B:=g.lt hN hd;obtain⟨u,C,c,y,E,o⟩:=Dn.word (v:=[]) (start:=[0]) g.1 (.nil sM);rcases Nat.lt_or_ge n v.length with z|t
 ·have:=b u c (zgs (fun l hl=>h6 l (hv l hl)) (fun l hl=>h6 l (c l hl)) oM) y (by simpa using E);rw [o] at this;cases this
 ·omega
theorem firstW_ok (h6:∀ l∈L,l<6)(hN:0<N)(hd:∀ x l,x<N->l∈L->∀ y∈d x l,y<N):(∀ l∈zfd d [0] goal L,l<6)∧(zfd d [0] goal L).length<N:=by
 by_cases h:Lost d [0] goal L
 ·rw [(zgL h).1];exact⟨sM,by simpa using hN⟩
 ·obtain⟨v,hv⟩:=zgx h;rw [(zfQ h6 hv).1];exact⟨fun l hl=>h6 l (hv.1 l hl),found_len hv h6 hN hd⟩
end
theorem wstr_word (h6:∀ l∈v,l<6)(hl:v.length<=50000):zbF (wstr v)=true:=by
 unfold zbF;simp only [dF,decide_eq_true_eq];refine⟨by rw [zgr];exact hl,?_⟩;rw [eC];intro b hb;unfold wstr lbs at hb;rw [strOfNums_data,List.map_map] at hb;obtain⟨l,hl,rfl⟩:=List.mem_map.1 hb;have a:=h6 l hl;have c:∀ l,l<6->zdr (UInt8.ofNat (97+l))=true:=dM;have e:((fun n:Int=>UInt8.ofNat n.toNat) ∘ fun l:Nat=>((97+l:Nat):Int)) l=UInt8.ofNat (97+l):=by
  show UInt8.ofNat (((97+l:Nat):Int)).toNat=_;rw [eJ]
 first
  |(rw [e];exact c l a)
  |(have:=c l a;simpa using this)
theorem vioW_word (hss:∀ s∈ss,zj s=true)(ha:zh a=true)(hp:zh p=true)(hN:zD (zaP ss [a,p])<=50000):zbF (vioW ss a p)=true∧(vioW ss a p).size<zD (zaP ss [a,p]):=by
 have b:∀ m∈zaP ss [a,p],zdK m:=by
  intro m b;unfold zaP at b;rcases List.mem_append.1 b with h|h
  ·obtain⟨s,c,rfl⟩:=List.mem_map.1 h;exact zei (zcu (hss s c))
  ·simp at h;rcases h with rfl|rfl
   ·exact zby ha
   ·exact zby hp
 obtain⟨h1,h2⟩:=firstW_ok (d:=zbH ss a p) (goal:=zbP a p) (L:=letters (zJ ss|||a.al.toNat) 6) (N:=zD (zaP ss [a,p])) (fun l hl=>(zF.1 hl).1) (zeB b) (fun x l _ hl y hy=>by
  rw [zcV] at hy;exact zgN b (zF.1 hl).1 y hy)
 unfold vioW;exact⟨wstr_word h1 oM,by rw [zgr];exact h2⟩
theorem prod_le (hss:∀ s∈ss,zj s=true):zD (zaP ss [a,p])<=16 ^ ss.length*(a.next.length*p.next.length):=by
 induction ss with
 |nil=>simp [zaP,zD,zal,zbG]
 |cons s r ih =>
  have h1:=ih (fun s hs=>hss s (fM _ hs));have h2:s.st.toNat<=16:=by have:=(zcu (hss s gD)).2.1;omega
  show zD (zdk s :: zaP r [a,p])<=_;rw [zcK,List.length_cons,Nat.pow_succ]
  calc s.st.toNat*zD (zaP r [a,p])<=16*(16 ^ r.length*(a.next.length*p.next.length)):=eM h2 h1
   _=16 ^ r.length*16*(a.next.length*p.next.length):=by rw [← Nat.mul_assoc,Nat.mul_comm 16]
theorem zel (hs:zj s=true)(ha:zh a=true)(hp:zh p=true):zbF (zbh s a p)=true∧(zbh s a p).size<=2304:=by
 have h1:=(zk ha).2.1.2;have h2:=(zk hp).2.1.2;have b:=prod_le (ss:=[s]) (a:=a) (p:=p) (by simpa using hs);have d:a.next.length*p.next.length<=12*12:=eM h1 h2;simp only [List.length_singleton,Nat.pow_one] at b;obtain⟨c,f⟩:=vioW_word (ss:=[s]) (by simpa using hs) ha hp oM;unfold zbh;rw [if_pos (by unfold zck;rw [hs,ha,hp];rfl)];exact⟨c,oM⟩
theorem zeO (hss:zx ss=true)(hp:zh p=true):zbF (zav ss p)=true∧(zav ss p).size<16 ^ ss.length*12:=by
 obtain⟨⟨g,b⟩,hv⟩:=zap hss;have h2:=(zk hp).2.1.2;have c:=prod_le (a:=free) (p:=p) hv;have h:free.next.length*p.next.length<=1*12:=eM (dD _) h2;have i:zD (zaP ss [free,p])<=16 ^ ss.length*12:=dK c (Nat.mul_le_mul_left _ oM);have d:16 ^ ss.length<=16 ^ 3:=Nat.pow_le_pow_right oM b;have j:16 ^ ss.length*12<=4096*12:=Nat.mul_le_mul_right _ d;obtain⟨f,k⟩:=vioW_word hv zdD hp oM;unfold zav;rw [if_pos (by unfold zcJ;rw [hss,hp];rfl)];exact⟨f,oM⟩
noncomputable def zdQ (s:Sys) (p:Aut) (t:Sys) (L:Nat) (a:Aut):ByteArray × Int:=
 if zbg s a p=true then (zbc (zbh s a p) L,-1)
 else if zbQ [t] a=true then (zbc (zav [t] a) L,if zr s p L (zbc (zav [t] a) L)=true then -1 else 1)
 else (⟨#[]⟩,0)
section
variable {w:World} {lo hi n c lo1 hi1 m d m' d' lo2 hi2 k c2 k1 d1 k1' d1' L:Nat} {A B B' C X X':Option Addr} {s t:Sys} {p a:Aut}
theorem zej (ht:zR w lo hi C k t)(ha:zE w lo1 hi1 X k1 X' k1' a) :
  Calls Tryz.prog 271 #[.agg #[t.al,t.st,.slice C k c2],.agg #[a.al,.slice X k1 d1,.slice X' k1' d1']] w fun e w'=>e=.returned (.tuple #[.string (zav [t] a),.bool (zbQ [t] a)])∧Ext w w':=by
 have m:=za (fun W (hW:Ext w W)=>ht.ext hW);have j:=za (fun W (hW:Ext w W)=>ha.ext hW);clear ht ha
 go_enter Tryz.func271,Tryz.ntmps271
 go_upto_region 1 with fail
 generalize U0:(w.alloc _).alloc _=i at *;obtain⟨d,n,o⟩:=gV U0;clear U0;have s:=n.cell;have b:=(cY i).alloc (.cells #[t.al,t.st,.slice C k c2] 38);have h:=dU i 38 #[t.al,t.st,.slice C k c2];obtain⟨r,q,f⟩:=sl_one h (m.out _ (d.trans b));have p:=(o.ext b).cell;have l:=za (zaL (c:=1) (d2:=d1) (d2':=d1') f (j.out _ (d.trans b)));clear f h;go_wp2_with fail
 refine l.out.mono (mQ fun w2 g=>?_);go_wp2_with fail
 go_ret2;exact⟨rfl,(d.trans b).trans g⟩
theorem zhn (h:Tch w A n B m B' m' s p L)(ht:zR w lo hi C k t)(ha:zE w lo1 hi1 X k1 X' k1' a) (vt:zj t=true) (va:zh a=true) :
  Calls Tryz.prog 203 #[.agg #[t.al,t.st,.slice C k c2],.agg #[s.al,s.st,.slice A n c,p.al,.slice B m d,.slice B' m' d',L],.agg #[a.al,.slice X k1 d1,.slice X' k1' d1']] w fun e w'=>e=.returned (.tuple #[.string (zdQ s p t L a).1,.int .i64 (zdQ s p t L a).2])∧Ext w w':=by
 have hL:=h.lt;have o:=za (fun W (hW:Ext w W)=>by
  obtain⟨lo,hi,h1,h2,_⟩:=h.at_;exact zbr (c:=c) (d1:=d1) (d1':=d1') (d2:=d) (d2':=d') (h1.ext hW) (ha.ext hW) (h2.ext hW))
 have HS:=za (fun W (hW:Ext w W) (y:ByteArray) hy=>by
  obtain⟨lo,hi,h1,h2,h3⟩:=h.at_;exact zdd (c:=c) (d:=d) (d':=d') (L:=L) (t:=y) (h1.ext hW) (h2.ext hW) h.sv h.pv h.lt (dK h3 hW.size) hy)
 have u:=za (fun W (hW:Ext w W)=>zej (c2:=c2) (d1:=d1) (d1':=d1') (ht.ext hW) (ha.ext hW));have hu:=za (zel h.sv va h.pv);have R:=za (zeO (ss:=[t]) (p:=a) (by unfold zx;simp [vt]) va);have l:=za (show zdQ s p t L a=if zbg s a p=true then (zbc (zbh s a p) L,-1)
  else if zbQ [t] a=true then (zbc (zav [t] a) L,if zr s p L (zbc (zav [t] a) L)=true then -1 else 1)
  else (⟨#[]⟩,0) from rfl)
 generalize zdQ s p t L a=J at *;obtain⟨I,V⟩:∃ I,Hid (zbh s a p=I):=⟨_,rfl⟩;obtain⟨G,S⟩:∃ G,Hid (zav [t] a=G):=⟨_,rfl⟩;rw [V.out] at o hu l;rw [S.out] at u R l;have b:Ext w (((w.alloc (.cells #[t.al,t.st,.slice C k c2] 38)).alloc (.cells #[s.al,s.st,.slice A n c,p.al,.slice B m d,.slice B' m' d',L] 70)).alloc (.cells #[a.al,.slice X k1 d1,.slice X' k1' d1'] 27)):=(((cY _).alloc _).alloc _).alloc _;obtain⟨M,O,Q⟩:=zaa (cY (((w.alloc (.cells #[t.al,t.st,.slice C k c2] 38)).alloc (.cells #[s.al,s.st,.slice A n c,p.al,.slice B m d,.slice B' m' d',L] 70)).alloc (.cells #[a.al,.slice X k1 d1,.slice X' k1' d1'] 27)));clear h ht ha vt va;cases hub:zbg s a p
 ·cases hbb:zbQ [t] a
  ·have f:=za (show J=(⟨#[]⟩,0) by rw [l.out,hub,hbb];rfl);rw [hub] at o;rw [hbb] at u;rw [f.out];clear l f hub hbb
   go_enter Tryz.func203,Tryz.ntmps203
   go_upto_region 1 with fail
   generalize ((w.alloc _).alloc _).alloc _=E at *;have CT:=M.cells;have CK:=O.cells;have Z:=Q.cells;have z:=cY E;go_wp2_with (first
    |(go_at_call 59;refine (o.out _ b).mono (mQ fun w1 g=>?_))
    |(go_at_call 271;refine (u.out _ (b.trans g)).mono (mQ fun w2 q=>?_);have j:=g.trans q))
   go_ret2;exact⟨rfl,b.trans j⟩
  ·obtain⟨rw_,x⟩:∃ rw_,Hid (zbc G L=rw_):=⟨_,rfl⟩;have F:=za (fun W=>zaG (w:=W) (s:=G) (a:=L) R.out.1 oM);have T:=za (show rw_.size<=9223372036854775807 by
    rw [← x.out];have h1:=zaX (zbj (zeC R.out.1 L));omega)
   rw [x.out] at F l;have v:=za (fun W (hW:Ext w W)=>HS.out W hW rw_ T.out);obtain⟨H,U⟩:∃ H,Hid (zr s p L rw_=H):=⟨_,rfl⟩;rw [U.out] at v l;rw [hub] at o;rw [hbb] at u;have f:=za (show J=(rw_,if H=true then -1 else 1) by rw [l.out,hub,hbb];rfl);rw [f.out];clear l f hub hbb;cases H
   all_goals
    go_enter Tryz.func203,Tryz.ntmps203
    go_upto_region 1 with fail
    generalize ((w.alloc _).alloc _).alloc _=E at *;have CT:=M.cells;have CK:=O.cells;have Z:=Q.cells;have z:=cY E;go_wp2_with (first
     |(go_at_call 59;refine (o.out _ b).mono (mQ fun w1 g=>?_))
     |(go_at_call 271;refine (u.out _ (b.trans g)).mono (mQ fun w2 q=>?_);have j:=g.trans q)
     |(go_at_call 60;refine (F.out _).mono (mQ fun w3 r=>?_);have i:=j.trans r)
     |(go_at_call 62;refine (v.out _ (b.trans i)).mono (mQ fun w4 Y=>?_);have D:=i.trans Y))
    go_ret2;exact⟨rfl,b.trans D⟩
 ·have F:=za (fun W=>zaG (w:=W) (s:=I) (a:=L) hu.out.1 oM);rw [hub] at o;have f:=za (show J=(zbc I L,-1) by rw [l.out,hub];rfl);rw [f.out];clear l f hub
  go_enter Tryz.func203,Tryz.ntmps203
  go_upto_region 1 with fail
  generalize ((w.alloc _).alloc _).alloc _=E at *;have CT:=M.cells;have CK:=O.cells;have Z:=Q.cells;have z:=cY E;go_wp2_with (first
   |(go_at_call 59;refine (o.out _ b).mono (mQ fun w1 g=>?_))
   |(go_at_call 60;refine (F.out _).mono (mQ fun w3 r=>?_);have i:=g.trans r))
  go_ret2;exact⟨rfl,b.trans i⟩
end
structure Vd where
 code:Int
 asm:Aut
 tr:ByteArray
 ro:Nat
def noA:Aut:=⟨0,[],[]⟩
noncomputable def runT (s t:Sys) (p:Aut) (L:Nat):Nat->Nat->Option (List ByteArray × List ByteArray)->Vd
 |0,k,_=>⟨2,noA,⟨#[]⟩,k⟩
 |_+1,k,none=>⟨2,noA,⟨#[]⟩,k⟩
 |f+1,k,some tab =>
  if (zdQ s p t L (zdL L (zr s p L) tab.1 tab.2)).2=0 then ⟨0,zdL L (zr s p L) tab.1 tab.2,⟨#[]⟩,k+1⟩
  else if (zdQ s p t L (zdL L (zr s p L) tab.1 tab.2)).2=1 then ⟨1,noA,zav [s,t] p,k+1⟩
  else runT s t p L f (k+1) (zbB L (zr s p L) tab.1 tab.2 (zdQ s p t L (zdL L (zr s p L) tab.1 tab.2)).1)
def zcB (w:World) (v:Vd) (e:Ending) (w':World):Prop:=
 ∃ (A:Option Addr) (n c:Nat) (A':Option Addr) (n' c':Nat) (x:Int) (X:Option Addr) (k1 d1:Nat) (X':Option Addr) (k1' d1':Nat),
  e=.returned (.tuple #[.agg #[v.code,v.asm.al,.slice A n c,.slice A' n' c',v.tr,v.ro],.agg #[x,.slice X k1 d1,.slice X' k1' d1']])∧zK w' w.heap.size A n c A' n' c' v.asm∧Ext w w'
def zdo (L:Nat) (f:ByteArray->Bool) (o:Option (List ByteArray × List ByteArray)):Prop:=∀ rs cs,o=some (rs,cs)->zcT L f rs cs∧zaZ L f rs cs=none
theorem zdo.new (L:Nat) (f:ByteArray->Bool):zdo L f ((zar L f [⟨#[]⟩] 11 [⟨#[]⟩]).map fun r=>(r,[⟨#[]⟩])):=by
 intro rs cs h;obtain⟨r,a,e⟩:=Option.map_eq_some_iff.1 h;obtain⟨rfl,rfl⟩:=Prod.mk.inj e;obtain⟨h1,h2,-⟩:=zfO 11 _ _ (zcT.first L f) dM a
 exact⟨h1,h2⟩
theorem zdo.learn {f:ByteArray->Bool} {rows cols:List ByteArray}(h:zcT L f rows cols) (x:ByteArray):zdo L f (zbB L f rows cols x):=by
 intro rs cs hl;unfold zbB at hl
 split at hl
 ·cases hl
 ·rename_i col hc
  split at hl
  ·rename_i ha;obtain⟨r,b,e⟩:=Option.map_eq_some_iff.1 hl;obtain⟨rfl,rfl⟩:=Prod.mk.inj e;have a:=h.addC ha;obtain⟨h1,h2,-⟩:=zfO _ _ _ a (oH h.r12) b;exact⟨h1,h2⟩
  ·cases hl
theorem judgeT_size (hs:zj s=true)(hp:zh p=true)(ht:zj t=true)(ha:zh a=true):(zdQ s p t L a).1.size<=50000:=by
 have h1:=zel hs ha hp;have h2:=zeO (ss:=[t]) (p:=a) (by unfold zx;simp [ht]) ha;unfold zdQ;split
 ·exact zaX (zbj (zeC h1.1 L))
 ·split
  ·exact zaX (zbj (zeC h2.1 L))
  ·exact dG _
def TabM (w0 W:World) (g:Nat) (o:Option (List ByteArray × List ByteArray)):Prop:=
 ∃ (nr nc:Nat) (R:Option Addr) (cr:Nat) (C:Option Addr) (cc:Nat),Blk W g 90 #[.slice R nr cr,.slice C nc cc]∧nr<=cr∧nc<=cc ∧
  ∀ rs cs,o=some (rs,cs)->W.ownsRow w0.heap.size 9 1 (.slice R nr cr) nr (zM rs)∧W.ownsRow w0.heap.size 9 1 (.slice C nc cc) nc (zM cs)
theorem TabM.far {W':World} {G:Nat} {o:Option (List ByteArray × List ByteArray)} {cs:Array Value} {t:TypeId}(h:TabM w0 W g o)(hB:Blk W G t cs)(hf:Frm (fun k=>k=G) W W')(hg:g≠G)(ht:9≠t):TabM w0 W' g o:=by
 obtain⟨j,i,R,d,C,c,f,h1,h2,a⟩:=h;exact⟨j,i,R,d,C,c,f.frm hf hg,h1,h2,fun rs cs e=>⟨zf (a rs cs e).1 hf (fun b hv e'=>zp (a rs cs e).1 hB ht hv e'),zf (a rs cs e).2 hf (fun b hv e'=>zp (a rs cs e).2 hB ht hv e')⟩⟩
theorem zbV.fill {o:Option (List ByteArray × List ByteArray)} (h:zbV w o e W)(hw:w0.heap.size<=w.heap.size) :
  Ext w W∧∃ (nr nc:Nat) (R:Option Addr) (cr:Nat) (C:Option Addr) (cc:Nat),e=.returned (.tuple #[.agg #[.slice R nr cr,.slice C nc cc],.bool o.isSome])∧nr<=cr∧nc<=cc ∧
   ∀ rs cs,o=some (rs,cs)->W.ownsRow w0.heap.size 9 1 (.slice R nr cr) nr (zM rs)∧W.ownsRow w0.heap.size 9 1 (.slice C nc cc) nc (zM cs):=by
 obtain⟨a,⟨rfl,rfl⟩|⟨rs,cs,nr,nc,R,cr,C,cc,rfl,rfl,h1,h2⟩⟩:=h
 ·exact⟨a,0,0,none,0,none,0,rfl,dD _,dD _,fun _ _ e=>by cases e⟩
 ·refine⟨a,nr,nc,R,cr,C,cc,rfl,zfE h1,zfE h2,fun rs' cs' e=>?_⟩;obtain⟨rfl,rfl⟩:=Prod.mk.inj (Option.some.inj e);exact⟨zo h1 hw,zo h2 hw⟩
theorem sl_pair {lo2 hi2 c2:Nat}  (hb:Blk w g 38 #[s.al,s.st,.slice A n c,t.al,t.st,.slice C k c2])(h:zR w lo hi A n s)(h':zR w lo2 hi2 C k t):∃ lo hi,zcC w lo hi (some ⟨g,0,none⟩) 2 [s,t]:=by
 refine⟨0,hi+hi2+g+1,rfl,[.int .i64 s.al,.int .i64 s.st,.slice A n c,.int .i64 t.al,.int .i64 t.st,.slice C k c2],⟨rfl,oM,fun _=>⟨_,rfl,dG _,by dsimp only;omega,fun j u hu=>?_⟩⟩,fun j u hu=>?_⟩
 ·rw [zP,Nat.zero_add,hb.cell];simpa using hu
 ·match j with
  |0 =>
   simp at hu;subst hu;exact⟨A,n,c,rfl,rfl,rfl,h.1,h.2.more (dG _) oM⟩
  |1 =>
   simp at hu;subst hu;exact⟨C,k,c2,rfl,rfl,rfl,h'.1,h'.2.more (dG _) oM⟩
  |j+2=>simp at hu
theorem zcB.drew {v:Vd} (h:zcB w v e W):zcB w v e W.drew:=by
 obtain⟨A,n,c,a,g,b,x,X,k1,d1,X',k1',d1',d,ho,f⟩:=h;have hd:Ext W W.drew:=(cY W).drew;exact⟨A,n,c,a,g,b,x,X,k1,d1,X',k1',d1',d,ho.ext hd,f.trans hd⟩
theorem zcB.cast {v u:Vd} (hu:u=v)(h:zcB w v e W):zcB w u e W:=hu ▸ h
def roAt (W:World) (g:Nat):Nat:=match W.cell? ⟨g,5,none⟩ with|some (.int _ z)=>z.toNat|_=>0
theorem roAt_blk {t:TypeId} {u0 u1 u2 u3 u4:Value}(h:Blk W g t #[u0,u1,u2,u3,u4,j]):roAt W g=j:=by
 unfold roAt;rw [h.cell 5];exact eJ j
theorem runT_end {o:Option (List ByteArray × List ByteArray)}(h:¬ (o.isSome=true∧j<K)):runT s t p L (K - j) j o=⟨2,noA,⟨#[]⟩,j⟩:=by
 cases hk:K - j with
 |zero=>rfl
 |succ f =>
  cases o with
  |none=>rfl
  |some tab=>exact absurd ⟨rfl,oM⟩ h
theorem zeh (W:World) (Z:Nat) (u0 u1 u2 u3 u4 u5:Value):Frm (fun k=>k=Z) W ((((((W.setCell Z u0).setCell ⟨Z,1,none⟩ u1).setCell ⟨Z,2,none⟩ u2).setCell ⟨Z,3,none⟩ u3).setCell ⟨Z,4,none⟩ u4).setCell ⟨Z,5,none⟩ u5):=
 (((((dE W _ 0 _).trans (dE _ _ 1 _)).trans (dE _ _ 2 _)).trans (dE _ _ 3 _)).trans (dE _ _ 4 _)).trans (dE _ _ 5 _)
theorem Frm.drew {S:Nat->Prop} {a:World}(h:Frm S a w):Frm S a w.drew:=⟨h.os,h.tape,h.output,h.size,h.block⟩
theorem zfH {k1 d1 k1' d1':Nat} {X X':Option Addr} {v:Vd} {x:Int} {us:Array Value}(hx:Ext w W)(hv:Blk W Z 42 vs)(hu:Blk W (Z+1) 27 us)(h6:vs.size=6)(h3:us.size=3)(hZ:w.heap.size<=Z)(ho:zK W w.heap.size A n c A' n' c' v.asm) :
  Hid (zcB w v (.returned (.tuple #[.agg #[v.code,v.asm.al,.slice A n c,.slice A' n' c',v.tr,v.ro],.agg #[x,.slice X k1 d1,.slice X' k1' d1']]))
   (((((((((W.setCell Z v.code).setCell ⟨Z,1,none⟩ v.asm.al).setCell ⟨Z,2,none⟩ (.slice A n c)).setCell ⟨Z,3,none⟩ (.slice A' n' c')).setCell ⟨Z,4,none⟩ v.tr).setCell ⟨Z,5,none⟩ v.ro).setCell ⟨Z+1,0,none⟩ x).setCell ⟨Z+1,1,none⟩ (.slice X k1 d1)).setCell ⟨Z+1,2,none⟩ (.slice X' k1' d1'))) ∧
  Blk (((((((((W.setCell Z v.code).setCell ⟨Z,1,none⟩ v.asm.al).setCell ⟨Z,2,none⟩ (.slice A n c)).setCell ⟨Z,3,none⟩ (.slice A' n' c')).setCell ⟨Z,4,none⟩ v.tr).setCell ⟨Z,5,none⟩ v.ro).setCell ⟨Z+1,0,none⟩ x).setCell ⟨Z+1,1,none⟩ (.slice X k1 d1)).setCell ⟨Z+1,2,none⟩ (.slice X' k1' d1')) Z 42 #[v.code,v.asm.al,.slice A n c,.slice A' n' c',v.tr,v.ro] ∧
  Blk (((((((((W.setCell Z v.code).setCell ⟨Z,1,none⟩ v.asm.al).setCell ⟨Z,2,none⟩ (.slice A n c)).setCell ⟨Z,3,none⟩ (.slice A' n' c')).setCell ⟨Z,4,none⟩ v.tr).setCell ⟨Z,5,none⟩ v.ro).setCell ⟨Z+1,0,none⟩ x).setCell ⟨Z+1,1,none⟩ (.slice X k1 d1)).setCell ⟨Z+1,2,none⟩ (.slice X' k1' d1')) (Z+1) 27 #[.int .i64 x,.slice X k1 d1,.slice X' k1' d1']:=by
 obtain⟨j⟩:=vs
 match j,h6 with
 |[a0,a1,a2,a3,a4,a5],_ =>
 have a:Frm (fun k=>k=Z) W ((((((W.setCell Z v.code).setCell ⟨Z,1,none⟩ v.asm.al).setCell ⟨Z,2,none⟩ (.slice A n c)).setCell ⟨Z,3,none⟩ (.slice A' n' c')).setCell ⟨Z,4,none⟩ v.tr).setCell ⟨Z,5,none⟩ v.ro):=
  (((((dE W _ 0 _).trans (dE _ _ 1 _)).trans (dE _ _ 2 _)).trans (dE _ _ 3 _)).trans (dE _ _ 4 _)).trans (dE _ _ 5 _)
 have g:Blk ((((((W.setCell Z v.code).setCell ⟨Z,1,none⟩ v.asm.al).setCell ⟨Z,2,none⟩ (.slice A n c)).setCell ⟨Z,3,none⟩ (.slice A' n' c')).setCell ⟨Z,4,none⟩ v.tr).setCell ⟨Z,5,none⟩ v.ro) Z 42 #[.int .i64 v.code,.int .i64 v.asm.al,.slice A n c,.slice A' n' c',.string v.tr,.int .i64 v.ro]:=by
  simpa using (((((hv.ab 0 (.int .i64 v.code)).ab 1 (.int .i64 v.asm.al)).ab 2 (.slice A n c)).ab 3 (.slice A' n' c')).ab 4 (.string v.tr)).ab 5 (.int .i64 v.ro)
 have f:=ho.aq hv a dM;have d:=hu.frm a oM;have h:Ext w ((((((W.setCell Z v.code).setCell ⟨Z,1,none⟩ v.asm.al).setCell ⟨Z,2,none⟩ (.slice A n c)).setCell ⟨Z,3,none⟩ (.slice A' n' c')).setCell ⟨Z,4,none⟩ v.tr).setCell ⟨Z,5,none⟩ v.ro):=hx.frm a (fun k hk e=>oM);generalize (((((W.setCell Z v.code).setCell ⟨Z,1,none⟩ v.asm.al).setCell ⟨Z,2,none⟩ (.slice A n c)).setCell ⟨Z,3,none⟩ (.slice A' n' c')).setCell ⟨Z,4,none⟩ v.tr).setCell ⟨Z,5,none⟩ v.ro=i at *;have b:=zab i (Z+1) (.int .i64 x) (.slice X k1 d1) (.slice X' k1' d1');exact⟨za ⟨A,n,c,A',n',c',x,X,k1,d1,X',k1',d1',rfl,f.aq d b dM,h.frm b (fun k hk e=>oM)⟩,g.frm b oM,zaj d h3 _ _ _⟩
section
variable {w:World} {lo hi n c lo1 hi1 m d m' d' lo2 hi2 k c2:Nat} {A B B' C:Option Addr} {s t:Sys} {p:Aut}
theorem yF12a2 {P:Prop}(h:P:=by
 clear hflag hgo ho hon hne1 hne2 hd hb8 hb9' hxw;go_wp2_with fail
 refine zaJ (fun Y=>Frm (fun b=>b=Z) wr Y) [3] (zv.of [0,1,2,3]) kM kM kM kM kM (fun _ _ _ _ _ h=>h) hS0 ?_;refine zbE (v:=?_) rfl rfl rfl rfl (fun X hX=>?_) ?_
 rotate_left
 focus (go_simp<;>with_reducible rfl)
 refine pT ?_;refine zbE (v:=?_) rfl rfl rfl rfl (fun X hX=>?_) ?_
 rotate_left
 focus (go_simp<;>with_reducible rfl)
 refine pT ?_;refine zd fun K hK=>?_;go_simp;refine hK.out _ _ hf8.out.drew ?_;refine pT ?_;refine zb fun K hK=>?_;go_simp;refine hK.out _ _ ?_;refine ze ?_;go_wp2_with fail
 have cf2:=F2.out.cell;have cf3:=F3.out.cell;exact bodyPost_ret (v:=.tuple #[.agg #[(2:Int),(0:Int),(),(),.string ⟨#[]⟩,j],.agg #[x,.slice X k1 d1,.slice X' k1' d1']]) (by simp [results,Tryz.results112,go_sem,cf2,cf3]) rfl F1.out
 ):P:=h
theorem spec_l12Run (hs:zR w lo hi A n s)(hp:zE w lo1 hi1 B m B' m' p)(ht:zR w lo2 hi2 C k t)(hif:iface s p t=(L:Int))(hn:n<=1000000)(hhi:hi<=w.heap.size)(hK:K<=1000) :
  Calls Tryz.prog 112 #[.agg #[s.al,s.st,.slice A n c],.agg #[t.al,t.st,.slice C k c2],.agg #[p.al,.slice B m d,.slice B' m' d'],K] w
   (zcB w (runT s t p L K 0 ((zar L (zr s p L) [⟨#[]⟩] 11 [⟨#[]⟩]).map fun r=>(r,[⟨#[]⟩])))):=by
 obtain⟨vs,vp,vt⟩:=zew (show 0<=iface s p t by omega);have Hv:=za (And.intro vs (And.intro vp vt));have a3:=za (fun W (hW:Ext w W)=>spec_TaskOf (c:=c) (d:=d) (d':=d') (c2:=c2) (hs.ext hW) (hp.ext hW) (ht.ext hW) hif hn (dK hhi hW.size));have bm:=za (fun W (hW:Ext w W)=>show Calls Tryz.prog 150 #[.slice (some W.heap.size) 2 2,.agg #[p.al,.slice B m d,.slice B' m' d']] (W.alloc (.cells #[s.al,s.st,.slice A n c,t.al,t.st,.slice C k c2] 38)) (fun e w'=>e=.returned (.tuple #[.string (zav [s,t] p),.bool (zbQ [s,t] p)])∧Ext W w') by
  have f6:=(cY W).alloc (.cells #[s.al,s.st,.slice A n c,t.al,t.st,.slice C k c2] 38);obtain⟨l1,l2,bZ⟩:=sl_pair (dU W 38 #[s.al,s.st,.slice A n c,t.al,t.st,.slice C k c2]) (hs.ext (hW.trans f6)) (ht.ext (hW.trans f6));exact (zaL bZ (hp.ext (hW.trans f6))).mono (fun e w' h=>⟨h.1,f6.trans h.2⟩))
 have cw:=za (fun W (hW:Ext w W)=>hs.ext hW);have bR:=za (fun W (hW:Ext w W)=>ht.ext hW);obtain⟨ad,be⟩:∃ ad,Hid (runT s t p L K 0 ((zar L (zr s p L) [⟨#[]⟩] 11 [⟨#[]⟩]).map fun r=>(r,[⟨#[]⟩]))=ad):=⟨_,rfl⟩;have a0:=za (zdo.new L (zr s p L));rw [be.out];obtain⟨au,aY⟩:∃ au,Hid ((zar L (zr s p L) [⟨#[]⟩] 11 [⟨#[]⟩]).map (fun r=>(r,[(⟨#[]⟩:ByteArray)]))=au):=⟨_,rfl⟩;rw [aY.out] at be a0;clear hs hp ht hif vs vp vt;obtain⟨w0,U0⟩:∃ x,Hid (((((w.alloc (.cells #[s.al,s.st,.slice A n c] 38)).alloc (.cells #[t.al,t.st,.slice C k c2] 38)).alloc (.cells #[p.al,.slice B m d,.slice B' m' d'] 27)).alloc (.cells #[(0:Int),(0:Int),(),(),.string ⟨#[]⟩,(0:Int)] 42)).alloc (.cells #[(0:Int),(),()] 27)=x):=⟨_,za rfl⟩;have ag:Ext w w0:=((((((cY _).alloc _).alloc _).alloc _).alloc _).alloc _).trans (gJ U0.out);obtain⟨b1,b2,b3⟩:=zaa ((((cY _).alloc _).alloc _).trans (gJ U0.out));obtain⟨b8,b9⟩:=zS (gJ U0.out);simp only [World.size_alloc] at b8 b9
 go_enter Tryz.func112,Tryz.ntmps112
 go_upto_region 1 with fail
 rw [U0.out] at *;have CS:=b1.cells;have CT:=b2.cells;have CP:=b3.cells;have cH:=b9.lt;have cG:w.heap.size<=w.heap.size+1+1+1:=oM;generalize w.heap.size+1+1+1=Z at *;have b0:=cY w0;go_upto_region 2 with (first
  |(go_at_call 202;refine (a3.out _ ag).mono ?_;rintro e w1 ⟨A,n,c,B,m,d,B',m',d',rfl,aZ,bA⟩))
 have cK:=(dU w1 70 #[s.al,s.st,.slice A n c,p.al,.slice B m d,.slice B' m' d',L]).cell;go_upto_region 5 with fail
 obtain⟨bj,br⟩:∃ bj,Hid (w1.heap.size=bj):=⟨_,rfl⟩;generalize U0:(w1.alloc _).alloc _=w2 at *;obtain⟨a1,bK,bT⟩:=gV U0;clear U0;rw [br.out] at bK bT ⊢;clear cK;have U:=aZ.ext a1;have a:=bA.trans a1;have cI:=bT.lt;have bl:=za (fun W (hW:Ext w2 W)=>zeF (c:=c) (d:=d) (d':=d') (U.ext hW));rw [aY.out] at bl;have bS:=za (fun (R:Option Addr) (nr cr:Nat) (C:Option Addr) (nc cc:Nat) (rows cols:List ByteArray) W (hW:Ext w2 W) hT hI af ae aj=>zbq (c:=c) (d:=d) (d':=d') (nr:=nr) (nc:=nc) (R:=R) (C:=C) (cr:=cr) (cc:=cc) (rows:=rows) (cols:=cols) (U.ext hW) hT hI af ae aj);have bQ:=za (fun (R:Option Addr) (nr cr:Nat) (C:Option Addr) (nc cc:Nat) (rows cols:List ByteArray) (x:ByteArray) W (hW:Ext w2 W) hT hI af ae aj hx=>zdS (c:=c) (d:=d) (d':=d') (nr:=nr) (nc:=nc) (R:=R) (C:=C) (cr:=cr) (cc:=cc) (rows:=rows) (cols:=cols) (x:=x) (U.ext hW) hT hI af ae aj hx);have bi:=bT.cells;have bO:=bK.cells;have bN:=fun W (hW:Ext w2 W)=>CS W (a.trans hW);have bh:=fun W (hW:Ext w2 W)=>CT W (a.trans hW);have bM:=fun W (hW:Ext w2 W)=>CP W (a.trans hW);have bz:=cY w2;clear b0 CS CT CP;go_upto_region 6 with (first
  |(go_at_call 57;refine (bl.out _ bz).mono ?_;intro e w3 hret;obtain⟨ba,nr,nc,R,cr,C,cc,rfl,af,ae,a6⟩:=hret.fill (w0:=w2) (dD _);clear hret))
 go_wp2_with fail
 obtain⟨G,hG⟩:∃ G,Hid (w3.heap.size=G):=⟨_,rfl⟩;have cF:w2.heap.size<=G:=by rw [← hG.out];exact ba.size
 generalize U0:((w3.alloc _).alloc _).alloc _=w6 at *;obtain⟨aq,ah,D,aa⟩:=Ext.x3_ U0;clear U0;rw [hG.out] at ah D aa ⊢;have a2:=ba.trans aq;have aA:TabM w2 w6 G au:=⟨nr,nc,R,cr,C,cc,ah,af,ae,fun rs cs e=>⟨zg (a6 rs cs e).1 aq,zg (a6 rs cs e).2 aq⟩⟩;clear a6 ah ba aq
 go_loopw [14] (fun fv wr=>∃ (o:Option (List ByteArray × List ByteArray)) (j:Nat) (x:Int) (X:Option Addr) (k1 d1:Nat) (X':Option Addr) (k1' d1':Nat),fv=.bool o.isSome∧j<=K∧Hid (zdo L (zr s p L) o)∧Hid (runT s t p L (K - j) j o=ad)∧TabM w2 wr G o∧Blk wr (G+1) 42 #[(2:Int),(0:Int),(),(),.string ⟨#[]⟩,j]∧Blk wr (G+1+1) 27 #[x,.slice X k1 d1,.slice X' k1' d1']∧Ext w2 wr) (fun _ wr=>K - roAt wr (G+1))
 case atStart=>exact⟨au,0,0,none,0,0,none,0,0,rfl,dG _,a0,be,aA,D,aa,a2⟩
 case round =>
  clear aA D aa a2;obtain⟨o,j,x,X,k1,d1,X',k1',d1',rfl,hj,bY,aX,aA,D,aa,aI⟩:=hrel;have ao:=D.cell;have ap:=aa.cell
  by_cases hgo:o.isSome=true∧j<K
  ·obtain⟨⟨⟨rs,cs⟩,rfl⟩,cJ⟩:(∃ q,o=some q)∧j<K:=⟨Option.isSome_iff_exists.1 hgo.1,hgo.2⟩;clear hgo;obtain⟨hI,aj⟩:=bY.out rs cs rfl;have ck:(j:Int)<(K:Int):=oM;have ai:=D.frozen;have aS:Blk (wr.setCell ⟨G+1,5,none⟩ (.int .i64 ((j:Int)+1))) (G+1) 42 #[.int .i64 2,.int .i64 0,.slice none 0 0,.slice none 0 0,.string ⟨#[]⟩,.int .i64 ((j:Int)+1)]:=by
    simpa using D.ab 5 (.int .i64 ((j:Int)+1))
   have a7:Frm (fun b=>b=G+1) wr (wr.setCell ⟨G+1,5,none⟩ (.int .i64 ((j:Int)+1))):=dE wr _ 5 _;have aT:=aa.frm a7 oM;have bt:=aA.far D a7 oM dM;have aH:=aI.setCell (p:=⟨G+1,5,none⟩) (by dsimp only;omega) (.int .i64 ((j:Int)+1));go_upto_region 10 with fail
   have bx:=za (roAt_blk D);clear ao ap ai aA D aa aI a7;generalize wr.setCell ⟨G+1,5,none⟩ (.int .i64 ((j:Int)+1))=wA at *;obtain⟨nr,nc,R,cr,C,cc,ah,af,ae,bu⟩:=bt;obtain⟨oR,oC⟩:=bu rs cs rfl;have aN:=za (show TabAt wA R nr C nc rs cs from ⟨_,_,_,_,dY oR,dY oC⟩);have bb:=ah.cell;have cTc:=bi wA aH;have a5:=za hI;have aW:=za aj;have aL:=za (zcE hI aj aZ.lt);clear hI aj bu;go_upto_region 11 with (first
    |(go_at_call 58;refine (bS.out _ _ _ _ _ _ rs cs _ aH aN.out a5.out af ae aW.out).mono ?_;rintro e wB ⟨Y,q1,e1,Y',H,z,rfl,am,bB⟩))
   obtain⟨f,aV⟩:∃ f,Hid (zdL L (zr s p L) rs cs=f):=⟨_,rfl⟩;rw [aV.out] at am aL ⊢;generalize U0:wB.alloc _=wC at *;have bC:=gC U0;have bn:=dV U0;have aC:=am.ext bC;clear U0;have S:=bB.trans bC;have E:=aT.ext S;have aQ:=aS.ext S;have aO:=ah.ext S;have bd:=zg oR S;have bc:=zg oC S;have ap:=E.cell;have bX:=E.frozen;have b4:=bn.cell;have ak:=zab wC (G+1+1) (.int .i64 f.al) (.slice Y q1 e1) (.slice Y' H z);have ax:=zaj E rfl (.int .i64 f.al) (.slice Y q1 e1) (.slice Y' H z);have aR:=aQ.frm ak oM;have aP:=aO.frm ak oM;have bH:=zf bd ak (fun b hv e=>zp bd E dM hv e);have bG:=zf bc ak (fun b hv e=>zp bc E dM hv e);have an:=aC.aq E ak dM;have aG:=((aH.trans S).frm ak (fun k hk e=>oM));have cM:=za (aH.trans bB).size;have cL:=za aH.size;clear E aQ aO bd bc ak aC am bn aT aS ah oR oC bb cTc aN;go_upto_region 12 with fail
   generalize ((wC.setCell ⟨G+1+1,0,none⟩ f.al).setCell ⟨G+1+1,1,none⟩ (.slice Y q1 e1)).setCell ⟨G+1+1,2,none⟩ (.slice Y' H z)=wD at *;clear ap bX b4;have HJ:=za (zhn (c:=c) (d:=d) (d':=d') (c2:=c2) (d1:=e1) (d1':=z) (U.ext aG) (bR.out wD (ag.trans (a.trans aG))) an.reads Hv.out.2.2 aL.out);have bs:=za (judgeT_size (L:=L) Hv.out.1 Hv.out.2.1 Hv.out.2.2 aL.out);obtain⟨J,hJ⟩:∃ J,Hid (zdQ s p t L f=J):=⟨_,rfl⟩;rw [hJ.out] at HJ bs;have ap:=ax.cell;have bV:=bO wD aG;have bW:=bh wD aG;go_upto_region 13 with (first
    |(go_at_call 203;refine HJ.out.mono (mQ fun wE hxE=>?_)))
   have g:=aG.trans hxE;have O:=ax.ext hxE;have i:=aR.ext hxE;have V:=aP.ext hxE;have oRE:=zg bH hxE;have oCE:=zg bG hxE;have T:=an.ext hxE;clear ap bV bW ax aR aP bH bG an HJ;have y:=za (show (if J.2=0 then (⟨0,f,⟨#[]⟩,j+1⟩:Vd) else if J.2=1 then ⟨1,noA,zav [s,t] p,j+1⟩ else runT s t p L (K - (j+1)) (j+1) (zbB L (zr s p L) rs cs J.1))=ad by
    rw [← aX.out,show K - j=(K - (j+1))+1 by omega];show _=runT s t p L ((K - (j+1))+1) j (some (rs,cs));rw [runT,aV.out,hJ.out])
   by_cases hJ0:J.2=0
   ·have aB:=za (show ad=⟨0,f,⟨#[]⟩,j+1⟩ by rw [← y.out,if_pos hJ0]);have ao:=i.cell;have ai:=i.frozen;have l:Blk (wE.setCell ⟨G+1,0,none⟩ (0:Int)) (G+1) 42 #[.int .i64 0,.int .i64 0,.slice none 0 0,.slice none 0 0,.string ⟨#[]⟩,.int .i64 ((j:Int)+1)]:=by
     simpa using i.ab 0 (.int .i64 0)
    have a8:Frm (fun b=>b=G+1) wE (wE.setCell ⟨G+1,0,none⟩ (0:Int)):=dE wE _ 0 _;have Q:=O.frm a8 oM;have aD:=T.aq i a8 dM;have hxF:=g.setCell (p:=⟨G+1,0,none⟩) (by dsimp only;omega) (.int .i64 0);clear y V O oRE oCE a8 T i;go_upto_region 16 with fail
    generalize wE.setCell ⟨G+1,0,none⟩ (0:Int)=wF at *;clear ao ai hJ0;have bk:=za (zdi (c:=e1) (c':=z) aD.reads (zep aL.out));have ap:=Q.cell;go_upto_region 17 with (first
     |(go_at_call 165;refine bk.out.mono ?_;rintro e wG ⟨Z1,z1,y1,Z2,z2,y2,rfl,aE,hxG⟩;have ao:=(l.ext hxG).cell;have ai:=(l.ext hxG).frozen))
    have M:=l.ext hxG;have ab:=Q.ext hxG;have hfH:Frm (fun b=>b=G+1) wG (((wG.setCell ⟨G+1,1,none⟩ f.al).setCell ⟨G+1,2,none⟩ (.slice Z1 z1 y1)).setCell ⟨G+1,3,none⟩ (.slice Z2 z2 y2)):=((dE wG _ 1 _).trans (dE _ _ 2 _)).trans (dE _ _ 3 _);have u:Blk (((wG.setCell ⟨G+1,1,none⟩ f.al).setCell ⟨G+1,2,none⟩ (.slice Z1 z1 y1)).setCell ⟨G+1,3,none⟩ (.slice Z2 z2 y2)) (G+1) 42 #[.int .i64 0,.int .i64 f.al,.slice Z1 z1 y1,.slice Z2 z2 y2,.string ⟨#[]⟩,.int .i64 ((j:Int)+1)]:=by
     simpa using ((M.ab 1 (.int .i64 f.al)).ab 2 (.slice Z1 z1 y1)).ab 3 (.slice Z2 z2 y2)
    have F:=ab.frm hfH oM;have aF:=(aE.aq M hfH dM).less (show w.heap.size<=wF.heap.size by have:=hxF.size;have:=a.size;have:=ag.size;omega);have hxH:=(hxF.trans hxG).frm hfH (fun k hk e=>oM);clear ao ai ap l Q M ab hfH aD aE bk;generalize ((wG.setCell ⟨G+1,1,none⟩ f.al).setCell ⟨G+1,2,none⟩ (.slice Z1 z1 y1)).setCell ⟨G+1,3,none⟩ (.slice Z2 z2 y2)=wH at *;have hxw:=ag.trans (a.trans hxH);have hb8:=b8.ext (a.trans hxH);have hb9':=b9.ext (a.trans hxH);obtain⟨f1,f2,f3⟩:=zfH (v:=⟨0,f,⟨#[]⟩,j+1⟩) (x:=f.al) (X:=Y) (k1:=q1) (d1:=e1) (X':=Y') (k1':=H) (d1':=z) hxw hb8 hb9' rfl rfl oM aF;have F1:=za (zcB.cast aB.out f1.out.drew);clear f1;simp only [gO,iA] at F1 f2 f3;have F2:=za f2;have F3:=za f3;clear f2 f3;have k8:=hb8.cell;have z8:=hb8.frozen;have k9:=hb9'.cell;have z9:=hb9'.frozen;have hne1:G+1≠Z:=oH a.size;have hne2:G+1+1≠Z:=oH a.size;have bf:∀ W,Frm (fun b=>b=Z) wH W->∀ q,W.cell? ⟨G+1,q,none⟩=#[Value.int .i64 0,.int .i64 f.al,.slice Z1 z1 y1,.slice Z2 z2 y2,.string ⟨#[]⟩,.int .i64 ((j:Int)+1)][q]?:=fun W hW=>(u.frm hW hne1).cell;have bg:∀ W,Frm (fun b=>b=Z) wH W->∀ q,W.cell? ⟨G+1+1,q,none⟩=#[Value.int .i64 f.al,.slice Y q1 e1,.slice Y' H z][q]?:=fun W hW=>(F.frm hW hne2).cell;have hS0:Frm (fun b=>b=Z) wH wH.drew:=⟨rfl,rfl,rfl,dD _,fun _ _ _=>rfl⟩;have hf8:=za (zeh wH Z (.int .i64 0) (.int .i64 f.al) (.slice Z1 z1 y1) (.slice Z2 z2 y2) (.string ⟨#[]⟩) (.int .i64 ((j:Int)+1)));clear u F aF hb8 hb9' hxw hne1 hne2;go_wp2_with fail
    refine zaJ (fun Y=>Frm (fun b=>b=Z) wH Y) [3] (zv.of [0,1,2,3]) kM kM kM kM kM (fun _ _ _ _ _ h=>h) hS0 ?_;refine zbE (v:=?_) rfl rfl rfl rfl (fun X hX=>?_) ?_
    rotate_left
    focus (go_simp<;>with_reducible rfl)
    refine pT ?_;refine zbE (v:=?_) rfl rfl rfl rfl (fun X hX=>?_) ?_
    rotate_left
    focus (go_simp<;>with_reducible rfl)
    refine pT ?_;refine zd fun K hK=>?_;go_simp;refine hK.out _ _ hf8.out.drew ?_;refine pT ?_;refine zb fun K hK=>?_;go_simp;refine hK.out _ _ ?_;refine ze ?_;go_wp2_with fail
    have cf2:=F2.out.cell;have cf3:=F3.out.cell;exact bodyPost_ret (v:=.tuple #[.agg #[(0:Int),f.al,.slice Z1 z1 y1,.slice Z2 z2 y2,.string ⟨#[]⟩,((j:Int)+1:Int)],.agg #[f.al,.slice Y q1 e1,.slice Y' H z]]) (by simp [results,Tryz.results112,go_sem,cf2,cf3]) rfl F1.out
   ·by_cases hJ1:J.2=1
    ·have aB:=za (show ad=⟨1,noA,zav [s,t] p,j+1⟩ by rw [← y.out,if_neg hJ0,if_pos hJ1]);have HP:=za (bm.out wE (ag.trans (a.trans g)));have cS:=bN wE g;have cT:=bh wE g;have cP:∀ (v:Array Value) (q:Nat),(wE.alloc (.cells v 38)).cell? ⟨w.heap.size+1+1,q,none⟩=_:=fun v q=>bM _ (g.trans ((cY wE).alloc _)) q;clear hJ0 y V oRE oCE T;go_upto_region 20 with (first
      |(go_at_call 150;refine HP.out.mono (mQ fun wF hxF=>?_);clear cS cT cP))
     have l:=i.ext hxF;have Q:=O.ext hxF;have bD:=g.trans hxF;have ao:=l.cell;have ai:=l.frozen;clear HP i O;go_upto_region 22 with fail
     have hfH:Frm (fun b=>b=G+1) wF ((wF.setCell ⟨G+1,0,none⟩ (1:Int)).setCell ⟨G+1,4,none⟩ (.string (zav [s,t] p))):=(dE wF _ 0 _).trans (dE _ _ 4 _);have u:Blk ((wF.setCell ⟨G+1,0,none⟩ (1:Int)).setCell ⟨G+1,4,none⟩ (.string (zav [s,t] p))) (G+1) 42 #[.int .i64 1,.int .i64 0,.slice none 0 0,.slice none 0 0,.string (zav [s,t] p),.int .i64 ((j:Int)+1)]:=by
      simpa using (l.ab 0 (.int .i64 1)).ab 4 (.string (zav [s,t] p))
     have F:=Q.frm hfH oM;have hxH:=bD.frm hfH (fun k hk e=>oM);clear ao ai l Q hfH hJ1;generalize (wF.setCell ⟨G+1,0,none⟩ (1:Int)).setCell ⟨G+1,4,none⟩ (.string (zav [s,t] p))=wH at *;have hxw:=ag.trans (a.trans hxH);have hb8:=b8.ext (a.trans hxH);have hb9':=b9.ext (a.trans hxH);obtain⟨f1,f2,f3⟩:=zfH (v:=⟨1,noA,zav [s,t] p,j+1⟩) (A:=none) (n:=0) (c:=0) (A':=none) (n':=0) (c':=0) (x:=f.al) (X:=Y) (k1:=q1) (d1:=e1) (X':=Y') (k1':=H) (d1':=z) hxw hb8 hb9' rfl rfl oM (⟨⟨[],World.ownsRow_nil _ _ _ _,zH.nil _ _⟩,rfl,World.ownsRow_nil _ _ _ _,rfl⟩:zK wH w.heap.size none 0 0 none 0 0 noA);have F1:=za (zcB.cast aB.out f1.out.drew);clear f1;simp only [noA,gO,iA] at F1 f2 f3;have F2:=za f2;have F3:=za f3;clear f2 f3;have k8:=hb8.cell;have z8:=hb8.frozen;have k9:=hb9'.cell;have z9:=hb9'.frozen;have hne1:G+1≠Z:=oH a.size;have hne2:G+1+1≠Z:=oH a.size;have bf:∀ W,Frm (fun b=>b=Z) wH W->∀ q,W.cell? ⟨G+1,q,none⟩=#[Value.int .i64 1,.int .i64 0,.slice none 0 0,.slice none 0 0,.string (zav [s,t] p),.int .i64 ((j:Int)+1)][q]?:=fun W hW=>(u.frm hW hne1).cell;have bg:∀ W,Frm (fun b=>b=Z) wH W->∀ q,W.cell? ⟨G+1+1,q,none⟩=#[Value.int .i64 f.al,.slice Y q1 e1,.slice Y' H z][q]?:=fun W hW=>(F.frm hW hne2).cell;have hS0:Frm (fun b=>b=Z) wH wH.drew:=⟨rfl,rfl,rfl,dD _,fun _ _ _=>rfl⟩;have hf8:=za (zeh wH Z (.int .i64 1) (.int .i64 0) (.slice none 0 0) (.slice none 0 0) (.string (zav [s,t] p)) (.int .i64 ((j:Int)+1)));clear u F hb8 hb9' hxw hne1 hne2;go_wp2_with fail
     refine zaJ (fun Y=>Frm (fun b=>b=Z) wH Y) [3] (zv.of [0,1,2,3]) kM kM kM kM kM (fun _ _ _ _ _ h=>h) hS0 ?_;refine zbE (v:=?_) rfl rfl rfl rfl (fun X hX=>?_) ?_
     rotate_left
     focus (go_simp<;>with_reducible rfl)
     refine pT ?_;refine zbE (v:=?_) rfl rfl rfl rfl (fun X hX=>?_) ?_
     rotate_left
     focus (go_simp<;>with_reducible rfl)
     refine pT ?_;refine zd fun K hK=>?_;go_simp;refine hK.out _ _ hf8.out.drew ?_;refine pT ?_;refine zb fun K hK=>?_;go_simp;refine hK.out _ _ ?_;refine ze ?_;go_wp2_with fail
     have cf2:=F2.out.cell;have cf3:=F3.out.cell;exact bodyPost_ret (v:=.tuple #[.agg #[(1:Int),(0:Int),(),(),.string (zav [s,t] p),((j:Int)+1:Int)],.agg #[f.al,.slice Y q1 e1,.slice Y' H z]]) (by simp [results,Tryz.results112,go_sem,cf2,cf3]) rfl F1.out
    ·have e0:(J.2==0)=false:=by simpa using hJ0
     have e2:(J.2==1)=false:=by simpa using hJ1
     have hrunL:=za (show runT s t p L (K - (j+1)) (j+1) (zbB L (zr s p L) rs cs J.1)=ad by
      have:=y.out;rw [if_neg hJ0,if_neg hJ1] at this;exact this)
     clear hJ0 hJ1 y;have cTc:=bi wE g;have bb:=V.cell;have HTatE:=za (show TabAt wE R nr C nc rs cs from ⟨_,_,_,_,dY oRE,dY oCE⟩);go_upto_region 24 with (first
      |(go_at_call 64;refine (bQ.out _ _ _ _ _ _ rs cs J.1 _ g HTatE.out a5.out af ae aW.out (oH bs.out)).mono ?_;intro e wF hret;obtain⟨hxF,nr2,nc2,R2,cr2,C2,cc2,rfl,hcr2,hcc2,hT2⟩:=hret.fill (w0:=w2) g.size;clear hret))
     have hokL:=za (zdo.learn a5.out J.1);generalize zbB L (zr s p L) rs cs J.1=oL at *;generalize U0:wF.alloc _=wG at *;have hxG:=gC U0;have bo:=dV U0;clear U0;have ar:=hxF.trans hxG;have I:=V.ext ar;have M:=i.ext ar;have ab:=O.ext ar;have bE:=g.trans ar;have b5:=bo.cell;have bF:=I.cell;have bq:=I.frozen;have hfH:Frm (fun b=>b=G) wG ((wG.setCell G (.slice R2 nr2 cr2)).setCell ⟨G,1,none⟩ (.slice C2 nc2 cc2)):=(dE wG _ 0 _).trans (dE _ _ 1 _);have hTMH:TabM w2 ((wG.setCell G (.slice R2 nr2 cr2)).setCell ⟨G,1,none⟩ (.slice C2 nc2 cc2)) G oL:=
      ⟨nr2,nc2,R2,cr2,C2,cc2,by simpa using (I.ab 0 (.slice R2 nr2 cr2)).ab 1 (.slice C2 nc2 cc2),hcr2,hcc2,fun rs' cs' e=>by
       have h1:=zg (hT2 rs' cs' e).1 hxG;have h2:=zg (hT2 rs' cs' e).2 hxG;exact⟨zf h1 hfH (fun b hv e'=>zp h1 I dM hv e'),zf h2 hfH (fun b hv e'=>zp h2 I dM hv e')⟩⟩
     have u:=M.frm hfH oM;have F:=ab.frm hfH oM;have hxH:=bE.frm hfH (fun k hk e=>oM);clear cTc bb V i O oRE oCE T I M ab hfH bo hT2;go_upto_region 25 with fail
     generalize (wG.setCell G (.slice R2 nr2 cr2)).setCell ⟨G,1,none⟩ (.slice C2 nc2 cc2)=wH at *;clear b5 bF bq;have bw:((j:Int)+1)=((j+1:Nat):Int):=oM;rw [bw] at u;have a9:=za (roAt_blk u);clear bw;go_wp2_with fail
     go_roundw
     case rel=>exact⟨oL,j+1,f.al,Y,q1,e1,Y',H,z,rfl,oM,hokL,hrunL,hTMH,u,F,hxH⟩
     case measure=>have h1:=bx.out;have h2:=a9.out;omega
  ·have aB:=za (show ad=⟨2,noA,⟨#[]⟩,j⟩ by
    rw [← aX.out];exact runT_end hgo)
   have hb8:=(b8.ext (a.trans aI));have hb9':=(b9.ext (a.trans aI));have hon:zK wr w.heap.size none 0 0 none 0 0 noA:=⟨⟨[],World.ownsRow_nil _ _ _ _,zH.nil _ _⟩,rfl,World.ownsRow_nil _ _ _ _,rfl⟩;have hflag:(o.isSome&&decide ((j:Int)<(K:Int)))=false:=by
    rw [Bool.eq_false_iff];intro h;simp only [dF,decide_eq_true_eq] at h;exact hgo ⟨h.1,oM⟩
   have hxw:=ag.trans (a.trans aI);have hd:Ext wr wr.drew:=(cY wr).drew;obtain⟨f1,f2,f3⟩:=zfH (v:=⟨2,noA,⟨#[]⟩,j⟩) (x:=x) (X:=X) (k1:=k1) (d1:=d1) (X':=X') (k1':=k1') (d1':=d1') hxw hb8 hb9' rfl rfl oM hon;have F1:=za (zcB.cast aB.out f1.out.drew);clear f1;simp only [noA] at F1 f2 f3;have F2:=za f2;have F3:=za f3;clear f2 f3;have k8:=hb8.cell;have z8:=hb8.frozen;have k9:=hb9'.cell;have z9:=hb9'.frozen;have cN:=ag.size;have hne1:G+1≠Z:=oH a.size;have hne2:G+1+1≠Z:=oH a.size;have bf:∀ W,Frm (fun b=>b=Z) wr W->∀ q,W.cell? ⟨G+1,q,none⟩=#[Value.int .i64 2,.int .i64 0,.slice none 0 0,.slice none 0 0,.string ⟨#[]⟩,.int .i64 j][q]?:=fun W hW=>(D.frm hW hne1).cell;have bg:∀ W,Frm (fun b=>b=Z) wr W->∀ q,W.cell? ⟨G+1+1,q,none⟩=#[Value.int .i64 x,.slice X k1 d1,.slice X' k1' d1'][q]?:=fun W hW=>(aa.frm hW hne2).cell;have hS0:Frm (fun b=>b=Z) wr wr.drew:=⟨rfl,rfl,rfl,dD _,fun _ _ _=>rfl⟩;have hf8:=za (zeh wr (Z) (.int .i64 2) (.int .i64 0) (.slice none 0 0) (.slice none 0 0) (.string ⟨#[]⟩) (.int .i64 j));cases ho:o.isSome
   ·have Ho:=za ho;rw [ho] at hflag;exact yF12a2
   ·have cl:¬ ((j:Int)<(K:Int)):=fun h=>hgo ⟨ho,oM⟩;have Ho:=za ho;exact yF12a2
end
def RetVd (w:World) (v:Vd) (e:Ending) (w':World):Prop:=
 ∃ (A:Option Addr) (n c:Nat) (A':Option Addr) (n' c':Nat),
  e=.returned (.agg #[v.code,v.asm.al,.slice A n c,.slice A' n' c',v.tr,v.ro])∧zK w' w.heap.size A n c A' n' c' v.asm∧Ext w w'
section
variable {w:World} {lo hi n c lo1 hi1 m d m' d' lo2 hi2 k c2:Nat} {A B B' C:Option Addr} {s t:Sys} {p:Aut}
theorem zcx {v:Vd} (HR:Hid (∀ W,Ext w W->Calls Tryz.prog 112 #[.agg #[s.al,s.st,.slice A n c],.agg #[t.al,t.st,.slice C k c2],.agg #[p.al,.slice B m d,.slice B' m' d'],(12:Int)] W (zcB W v))) :
  Calls Tryz.prog 42 #[.agg #[s.al,s.st,.slice A n c],.agg #[t.al,t.st,.slice C k c2],.agg #[p.al,.slice B m d,.slice B' m' d']] w
   (RetVd w v):=by
 obtain⟨I,U0⟩:∃ x,Hid ((((w.alloc (.cells #[s.al,s.st,.slice A n c] 38)).alloc (.cells #[t.al,t.st,.slice C k c2] 38)).alloc (.cells #[p.al,.slice B m d,.slice B' m' d'] 27)).alloc (.cells #[(0:Int),(0:Int),(),(),.string ⟨#[]⟩,(0:Int)] 42)=x):=⟨_,za rfl⟩;have j:Ext w I:=(((((cY _).alloc _).alloc _).alloc _).alloc _).trans (gJ U0.out);obtain⟨J,L,M⟩:=zaa (((cY _).alloc _).trans (gJ U0.out));have H:=dV U0.out;simp only [World.size_alloc] at H
 go_enter Tryz.func42,Tryz.ntmps42
 go_upto_region 1 with fail
 rw [U0.out] at *;have Q:=J.cell;have cc2:=L.cell;have R:=M.cell;go_upto_region 2 with (first
  |(go_at_call 112;refine (HR.out I j).mono ?_;rintro e G ⟨b,h,k1,f,i,g,x,X,S,d1,X',F,d1',rfl,ho,y⟩;clear Q cc2 R))
 have O:=(dU G 42 #[v.code,v.asm.al,.slice b h k1,.slice f i g,v.tr,v.ro]).ext ((cY _).alloc (.cells #[x,.slice X S d1,.slice X' F d1'] 27));generalize U0:(G.alloc _).alloc _=w2 at *;have l:=((cY G).alloc (.cells #[v.code,v.asm.al,.slice b h k1,.slice f i g,v.tr,v.ro] 42)).trans (gC U0);clear U0;have a:=H.ext (y.trans l);have V:=O.cell;have U:=a.cell;have T:=a.frozen;have q:=ho.ext l;have E:=zeh w2 (w.heap.size+1+1+1) (.int .i64 v.code) (.int .i64 v.asm.al) (.slice b h k1) (.slice f i g) (.string v.tr) (.int .i64 v.ro);have o:Blk ((((((w2.setCell ⟨w.heap.size+1+1+1,0,none⟩ v.code).setCell ⟨w.heap.size+1+1+1,1,none⟩ v.asm.al).setCell ⟨w.heap.size+1+1+1,2,none⟩ (.slice b h k1)).setCell ⟨w.heap.size+1+1+1,3,none⟩ (.slice f i g)).setCell ⟨w.heap.size+1+1+1,4,none⟩ v.tr).setCell ⟨w.heap.size+1+1+1,5,none⟩ v.ro) (w.heap.size+1+1+1) 42 #[.int .i64 v.code,.int .i64 v.asm.al,.slice b h k1,.slice f i g,.string v.tr,.int .i64 v.ro]:=by
  simpa using (((((a.ab 0 (.int .i64 v.code)).ab 1 (.int .i64 v.asm.al)).ab 2 (.slice b h k1)).ab 3 (.slice f i g)).ab 4 (.string v.tr)).ab 5 (.int .i64 v.ro)
 have r:=(q.aq a E dM).less j.size;have z:=(j.trans (y.trans l)).frm E (fun k hk e=>oM);have u:=za (show RetVd w v (.returned (.agg #[v.code,v.asm.al,.slice b h k1,.slice f i g,v.tr,v.ro])) _ from ⟨b,h,k1,f,i,g,rfl,r,z⟩);have D:=za o;clear a q ho r z E o;go_wp2_with fail
 have D:=D.out.cell;exact bodyPost_ret (v:=.agg #[v.code,v.asm.al,.slice b h k1,.slice f i g,v.tr,v.ro]) (by simp [results,Tryz.results42,go_sem,D]) rfl u.out
theorem zgg (hs:zR w lo hi A n s)(hp:zE w lo1 hi1 B m B' m' p)(ht:zR w lo2 hi2 C k t)(hif:iface s p t=(L:Int))(hn:n<=1000000)(hhi:hi<=w.heap.size) :
  Calls Tryz.prog 42 #[.agg #[s.al,s.st,.slice A n c],.agg #[t.al,t.st,.slice C k c2],.agg #[p.al,.slice B m d,.slice B' m' d']] w
   (RetVd w (runT s t p L 12 0 ((zar L (zr s p L) [⟨#[]⟩] 11 [⟨#[]⟩]).map fun r=>(r,[⟨#[]⟩])))):=
 zcx (za (fun W (hW:Ext w W)=>spec_l12Run (K:=12) (hs.ext hW) (hp.ext hW) (ht.ext hW) hif hn (dK hhi hW.size) oM))
end
theorem tot_cons (l:List Int) (r:List (List Int)):tot (l :: r)=l.length+tot r:=by simp [tot]
theorem zH.ab {w':World} {base:Nat} {rows:List Value} {ls:List (List Int)}   {l:List Int}(h:zH w base rows ls)(hr:rows[j]?=some (.slice A l.length c))
  (hf:Frm (blk A) w w') (zhD:w'.ownsRow base 3 1 (.slice A l.length c) l.length (ints l)):zH w' base rows (ls.set j l):=by
 have d:j<rows.length:=(List.getElem?_eq_some_iff.1 hr).1;refine⟨by simp [h.1],fun i row m hi hm=>?_,h.2.2⟩
 by_cases hij:i=j
 ·subst hij;rw [hr] at hi;obtain rfl:=Option.some.inj hi;rw [List.getElem?_set_self (by rw [← h.1];exact d)] at hm;obtain rfl:=Option.some.inj hm;exact zhD
 ·rw [List.getElem?_set_ne (fun e=>hij e.symm)] at hm;refine zf (h.2.1 i row m hi hm) hf (fun b hb hS=>?_);obtain⟨a,rfl,rfl⟩:=hS;exact h.2.2 i j row _ a.block hi hr hij hb rfl
def aut0:Aut:=⟨0,[],[]⟩
theorem own_aut0 (w:World) (base:Nat):zK w base none 0 0 none 0 0 aut0:=⟨⟨[],World.ownsRow_nil _ _ _ _,zH.nil _ _⟩,rfl,World.ownsRow_nil _ _ _ _,rfl⟩
theorem zec (s t:Sys) (p:Aut):iface s p t = -1∨∃ L:Nat,iface s p t=(L:Int):=by
 unfold iface;split
 ·exact .inr ⟨_,rfl⟩
 ·exact .inl rfl
section
variable {w:World} {lo hi n c lo1 hi1 m d m' d' lo2 hi2 k c2:Nat} {A B B' C:Option Addr} {s t:Sys} {p:Aut}
theorem spec_TaskOf0 (hs:zR w lo hi A n s)(hp:zE w lo1 hi1 B m B' m' p)(ht:zR w lo2 hi2 C k t)(hif:iface s p t = -1) :
  Calls Tryz.prog 202 #[.agg #[s.al,s.st,.slice A n c],.agg #[p.al,.slice B m d,.slice B' m' d'],.agg #[t.al,t.st,.slice C k c2]] w
   fun e w'=>e=.returned (.tuple #[.agg #[(0:Int),(0:Int),(),(0:Int),(),(),(0:Int)],.bool false])∧Ext w w':=by
 have b:=za (fun W (hW:Ext w W)=>zbU (c:=c) (d1:=d) (d1':=d') (c2:=c2) (hs.ext hW) (hp.ext hW) (ht.ext hW));rw [hif] at b;clear hs hp ht hif;obtain⟨l,U0⟩:∃ x,Hid ((((w.alloc (.cells #[s.al,s.st,.slice A n c] 38)).alloc (.cells #[p.al,.slice B m d,.slice B' m' d'] 27)).alloc (.cells #[t.al,t.st,.slice C k c2] 38)).alloc (.cells #[(0:Int),(0:Int),(),(0:Int),(),(),(0:Int)] 70)=x):=⟨_,za rfl⟩;have g:Ext w l:=(((((cY _).alloc _).alloc _).alloc _).alloc _).trans (gJ U0.out);obtain⟨o,q,r⟩:=zaa (((cY _).alloc _).trans (gJ U0.out));have j:=dV U0.out;simp only [World.size_alloc] at j
 go_enter Tryz.func202,Tryz.ntmps202
 go_upto_region 1 with fail
 rw [U0.out] at *;have F:=o.cells;have E:=q.cells;have G:=r.cells;have D:=cY l;go_upto_region 3 with (first
  |(go_at_call 95;refine (b.out _ g).mono (mQ fun h a=>?_)))
 have i:=j.ext a;have I:=i.cell;have H:=i.frozen;have hxw:=g.trans a;have z:Frm (fun k=>k=w.heap.size+1+1+1) h (((((((h.setCell ⟨w.heap.size+1+1+1,0,none⟩ (0:Int)).setCell ⟨w.heap.size+1+1+1,1,none⟩ (0:Int)).setCell ⟨w.heap.size+1+1+1,2,none⟩ ()).setCell ⟨w.heap.size+1+1+1,3,none⟩ (0:Int)).setCell ⟨w.heap.size+1+1+1,4,none⟩ ()).setCell ⟨w.heap.size+1+1+1,5,none⟩ ()).setCell ⟨w.heap.size+1+1+1,6,none⟩ (0:Int)):=
  ((((((dE h _ 0 _).trans (dE _ _ 1 _)).trans (dE _ _ 2 _)).trans (dE _ _ 3 _)).trans (dE _ _ 4 _)).trans (dE _ _ 5 _)).trans (dE _ _ 6 _)
 have u:Blk (((((((h.setCell ⟨w.heap.size+1+1+1,0,none⟩ (0:Int)).setCell ⟨w.heap.size+1+1+1,1,none⟩ (0:Int)).setCell ⟨w.heap.size+1+1+1,2,none⟩ ()).setCell ⟨w.heap.size+1+1+1,3,none⟩ (0:Int)).setCell ⟨w.heap.size+1+1+1,4,none⟩ ()).setCell ⟨w.heap.size+1+1+1,5,none⟩ ()).setCell ⟨w.heap.size+1+1+1,6,none⟩ (0:Int)) (w.heap.size+1+1+1) 70 #[.int .i64 0,.int .i64 0,.slice none 0 0,.int .i64 0,.slice none 0 0,.slice none 0 0,.int .i64 0]:=by
  simpa using ((((((i.ab 0 (.int .i64 0)).ab 1 (.int .i64 0)).ab 2 (.slice none 0 0)).ab 3 (.int .i64 0)).ab 4 (.slice none 0 0)).ab 5 (.slice none 0 0)).ab 6 (.int .i64 0)
 have f:=za (hxw.frm z (fun k hk e=>oM));go_wp2_with fail
 generalize (((((((h.setCell ⟨w.heap.size+1+1+1,0,none⟩ (0:Int)).setCell ⟨w.heap.size+1+1+1,1,none⟩ (0:Int)).setCell ⟨w.heap.size+1+1+1,2,none⟩ ()).setCell ⟨w.heap.size+1+1+1,3,none⟩ (0:Int)).setCell ⟨w.heap.size+1+1+1,4,none⟩ ()).setCell ⟨w.heap.size+1+1+1,5,none⟩ ()).setCell ⟨w.heap.size+1+1+1,6,none⟩ (0:Int))=W at *;have y:=u.cell;exact bodyPost_ret (v:=.tuple #[.agg #[(0:Int),(0:Int),(),(0:Int),(),(),(0:Int)],.bool false]) (by simp [results,Tryz.results202,go_sem,y]) rfl ⟨rfl,f.out⟩
theorem spec_l12Run0 (hs:zR w lo hi A n s)(hp:zE w lo1 hi1 B m B' m' p)(ht:zR w lo2 hi2 C k t)(hif:iface s p t = -1) :
  Calls Tryz.prog 112 #[.agg #[s.al,s.st,.slice A n c],.agg #[t.al,t.st,.slice C k c2],.agg #[p.al,.slice B m d,.slice B' m' d'],K] w (zcB w ⟨3,noA,⟨#[]⟩,0⟩):=by
 have D:=za (fun W (hW:Ext w W)=>spec_TaskOf0 (c:=c) (d:=d) (d':=d') (c2:=c2) (hs.ext hW) (hp.ext hW) (ht.ext hW) hif);clear hs hp ht hif;obtain⟨q,U0⟩:∃ x,Hid (((((w.alloc (.cells #[s.al,s.st,.slice A n c] 38)).alloc (.cells #[t.al,t.st,.slice C k c2] 38)).alloc (.cells #[p.al,.slice B m d,.slice B' m' d'] 27)).alloc (.cells #[(0:Int),(0:Int),(),(),.string ⟨#[]⟩,(0:Int)] 42)).alloc (.cells #[(0:Int),(),()] 27)=x):=⟨_,za rfl⟩;have b:Ext w q:=((((((cY _).alloc _).alloc _).alloc _).alloc _).alloc _).trans (gJ U0.out);obtain⟨r,u,y⟩:=zaa ((((cY _).alloc _).alloc _).trans (gJ U0.out));have i:=(dU (((w.alloc (.cells #[s.al,s.st,.slice A n c] 38)).alloc (.cells #[t.al,t.st,.slice C k c2] 38)).alloc (.cells #[p.al,.slice B m d,.slice B' m' d'] 27)) 42 #[(0:Int),(0:Int),(),(),.string ⟨#[]⟩,(0:Int)]).ext ((cY _).alloc (.cells #[(0:Int),(),()] 27));have j:=dV U0.out;simp only [World.size_alloc] at i j
 go_enter Tryz.func112,Tryz.ntmps112
 go_upto_region 1 with fail
 rw [U0.out] at *;have H:=r.cells;have I:=u.cells;have G:=y.cells;have E:=cY q;go_upto_region 2 with (first
  |(go_at_call 202;refine (D.out _ b).mono (mQ fun F f=>?_)))
 generalize U0:F.alloc _=w2 at *;have a:Ext q w2:=(f.alloc _).trans (gJ U0);clear U0;have h:=i.ext a;have O:=h.cell;have L:=h.frozen;have g:=j.ext a;have M:=g.cell;have J:=g.frozen;obtain⟨z,l,o⟩:=zfH (v:=⟨3,noA,⟨#[]⟩,0⟩) (A:=none) (n:=0) (c:=0) (A':=none) (n':=0) (c':=0) (x:=0) (X:=none) (k1:=0) (d1:=0) (X':=none) (k1':=0) (d1':=0) (b.trans a) h g rfl rfl oM (own_aut0 _ _);dsimp only [noA] at z l o;have F2:=za l;have F3:=za o;clear l o h g r u y i j;go_wp2_with fail
 generalize (((((((((w2.setCell ⟨w.heap.size+1+1+1,0,none⟩ (3:Int)).setCell ⟨w.heap.size+1+1+1,1,none⟩ (0:Int)).setCell ⟨w.heap.size+1+1+1,2,none⟩ ()).setCell ⟨w.heap.size+1+1+1,3,none⟩ ()).setCell ⟨w.heap.size+1+1+1,4,none⟩ (.string ⟨#[]⟩)).setCell ⟨w.heap.size+1+1+1,5,none⟩ (0:Int)).setCell ⟨w.heap.size+1+1+1+1,0,none⟩ (0:Int)).setCell ⟨w.heap.size+1+1+1+1,1,none⟩ ()).setCell ⟨w.heap.size+1+1+1+1,2,none⟩ ())=W at *;have cf2:=F2.out.cell;have cf3:=F3.out.cell;exact bodyPost_ret (v:=.tuple #[.agg #[(3:Int),(0:Int),(),(),.string ⟨#[]⟩,(0:Int)],.agg #[(0:Int),(),()]]) (by simp [results,Tryz.results112,go_sem,cf2,cf3]) rfl z.out
end
noncomputable def vpT (s t:Sys) (p:Aut):Vd:=
 if iface s p t<0 then ⟨3,noA,⟨#[]⟩,0⟩ else runT s t p (iface s p t).toNat 12 0 ((zar (iface s p t).toNat (zr s p (iface s p t).toNat) [⟨#[]⟩] 11 [⟨#[]⟩]).map fun r=>(r,[⟨#[]⟩]))
theorem vpT_neg (h:iface s p t = -1):vpT s t p=⟨3,noA,⟨#[]⟩,0⟩:=by unfold vpT;rw [if_pos oM]
theorem vpT_pos (h:iface s p t=(L:Int)):vpT s t p=runT s t p L 12 0 ((zar L (zr s p L) [⟨#[]⟩] 11 [⟨#[]⟩]).map fun r=>(r,[⟨#[]⟩])):=by
 have e:(iface s p t).toNat=L:=oM;unfold vpT;rw [if_neg oM,e]
theorem iface_lt (h:iface s p t=(L:Int)):L<64:=by
 obtain⟨c,b,a⟩:=zew (show 0<=iface s p t by omega);rw [zdp c b a] at h;have h1:=zI a;have h2:((s.al.toNat|||p.al.toNat)&&&t.al.toNat)<=t.al.toNat:=Nat.and_le_right;omega
theorem runT_asm (hL:L<64) (f:Nat):∀ (k:Nat) (o:Option (List ByteArray × List ByteArray)),zdo L (zr s p L) o->zh (runT s t p L f k o).asm=true∨(runT s t p L f k o).asm=noA:=by
 induction f with
 |zero=>exact fun k o _=>.inr rfl
 |succ f ih =>
  intro k o ho
  match o with
  |none=>exact .inr rfl
  |some (rs,cs) =>
   obtain⟨b,a⟩:=ho rs cs rfl;rw [runT];split
   ·exact .inl (zcE b a hL)
   ·split
    ·exact .inr rfl
    ·exact ih _ _ (zdo.learn b _)
theorem vpT_asm (s t:Sys) (p:Aut):zh (vpT s t p).asm=true∨(vpT s t p).asm=noA:=by
 rcases zec s t p with h|⟨L,h⟩
 ·rw [vpT_neg h];exact .inr rfl
 ·rw [vpT_pos h];exact runT_asm (iface_lt h) 12 0 _ (zdo.new L _)
section
variable {w:World} {lo hi n c lo1 hi1 m d m' d' lo2 hi2 k c2:Nat} {A B B' C:Option Addr} {s t:Sys} {p:Aut}
theorem zfs (hs:zR w lo hi A n s)(hp:zE w lo1 hi1 B m B' m' p)(ht:zR w lo2 hi2 C k t)(hn:n<=1000000)(hhi:hi<=w.heap.size) :
  Calls Tryz.prog 42 #[.agg #[s.al,s.st,.slice A n c],.agg #[t.al,t.st,.slice C k c2],.agg #[p.al,.slice B m d,.slice B' m' d']] w
   (RetVd w (vpT s t p)):=by
 rcases zec s t p with h|⟨L,h⟩
 ·rw [vpT_neg h];exact zcx (za (fun W (hW:Ext w W)=>spec_l12Run0 (K:=12) (hs.ext hW) (hp.ext hW) (ht.ext hW) h))
 ·rw [vpT_pos h];exact zgg hs hp ht h hn hhi
end
theorem letS_data (l:Nat):(zcY l).data.toList=[UInt8.ofNat (97+l)]:=by
 unfold zcY;rw [strOfNums_data];rfl
theorem rest_letter (hw:zbF x=true) (hk:k<x.size):x.extract k x.size=zcY (x[k].toNat - 97)++x.extract (k+1) x.size:=by
 have c:=zbi hw hk;have hd:x.data.toList.length=x.size:=sM;have e:(x.extract k x.size).data.toList=(zcY (x[k].toNat - 97)++x.extract (k+1) x.size).data.toList:=by
  rw [ByteArray.data_append,Array.toList_append,letS_data,ByteArray.data_extract,ByteArray.data_extract,Array.toList_extract,Array.toList_extract];rw [List.extract_eq_take_drop,List.extract_eq_take_drop,dI (by rw [iO];omega),dI (by rw [iO];omega)];rw [show 97+(x[k].toNat - 97)=x[k].toNat by omega,UInt8.ofNat_toNat];have h1:=zbX x k hk;obtain⟨h2,b⟩:=List.getElem?_eq_some_iff.1 h1;rw [List.drop_eq_getElem_cons h2,b];rfl
 have a:(x.extract k x.size).data=(zcY (x[k].toNat - 97)++x.extract (k+1) x.size).data:=Array.toList_inj.1 e;exact ByteArray.ext a
section
variable {L:Nat} {f:ByteArray->Bool} {rows cols:List ByteArray}
theorem autT_go (hq:rows[q]?=some r)(hl:l<6)(hb:L.testBit l=true):aGo (zdL L f rows cols) q l=idxS (zbo f cols rows) (mkS (zcl f cols (r++zcY l))):=by
 unfold aGo zdL;simp only [eJ];rw [if_pos hb];have h1:(rows.map (zfb L f rows cols)).getD q []=zfb L f rows cols r:=by
  rw [dH,dQ,hq];rfl
 rw [h1];unfold zfb;rw [dH,dQ,zfU hb 6 hl];simp
theorem autT_row (ho:zaZ L f rows cols=none)(hq:rows[q]?=some r)(hl:l<6)(hb:L.testBit l=true) :
  ∃ r2,rows[aGo (zdL L f rows cols) q l]?=some r2∧zcl f cols r2=zcl f cols (r++zcY l):=by
 rw [autT_go hq hl hb];have h1:=zeA ho (dB hq) (zF.2 ⟨hl,hb⟩);have h2:=idxS_at h1;unfold zbo at h2 ⊢;rw [dQ] at h2;obtain⟨r2,a,b⟩:=Option.map_eq_some_iff.1 h2;exact⟨r2,a,mkS_inj b⟩
theorem openW_of (hr:r∈rows)(hl:l<6)(hb:L.testBit l=true)(hx:x=r++zcY l)(hn:zcl f cols x∉rows.map (zcl f cols)):zaZ L f rows cols≠none:=by
 intro h;subst hx;have:=zeA h hr (zF.2 ⟨hl,hb⟩);obtain⟨y,a,e⟩:=List.mem_map.1 this;exact hn (List.mem_map.2 ⟨y,a,mkS_inj e⟩)
theorem split_open (hI:zcT L f rows cols)(ho:zaZ L f rows cols=none) {col:ByteArray}(hs:zdm L f rows cols x=some col):zaZ L f rows (cols++[col])≠none:=by
 unfold zdm at hs
 split at hs
 ·rename_i hc;obtain⟨c,-⟩:=hc;simp only [dF,decide_eq_true_eq] at c;obtain⟨k,hk,rfl⟩:=Option.map_eq_some_iff.1 hs;have d:=List.mem_range.1 (List.mem_of_find?_eq_some hk);have m:=List.find?_some hk;have M:=zbj c.1;have X:=zbi M d;obtain⟨l,F⟩:∃ l,x[k].toNat - 97=l:=⟨_,rfl⟩;have n:l<6:=oM;have o:L.testBit l=true:=by
   have h1:=(inB_iff.1 c.1).2;have h2:(alB (wl x)).testBit l=true:=(zfL _ _).2 (dB (by rw [zeL d,F]));rw [← h1,iF,dF] at h2;exact h2.2
  have G:∀ j,j<=x.size->stT L f rows cols x j<rows.length:=fun j hj=>by
   have:=zga (p:=zdL L f rows cols) (ls:=(wl x).take j) (q:=0);have hL:L % 64=L % 64:=rfl;unfold stT;have Q:∀ (ls:List Nat) (q:Nat),q<rows.length->(∀ l∈ls,l<6∧L.testBit l=true)->zcm (zdL L f rows cols) q ls<rows.length:=by
    intro ls
    induction ls with
    |nil=>intro q hq _;exact hq
    |cons a r ih =>
     intro q hq h;obtain⟨h1,h2⟩:=h a gD;obtain⟨y,O,-⟩:=autT_row ho (dC hq) h1 h2;exact ih _ (List.getElem?_eq_some_iff.1 O).1 (fun b X=>h b (fM _ X))
   refine Q _ 0 hI.r1 fun a t=>?_;have t:=List.mem_of_mem_take t;refine⟨wl_lt M a t,?_⟩;have h1:=(inB_iff.1 c.1).2;have h2:(alB (wl x)).testBit a=true:=(zfL _ _).2 t;rw [← h1,iF,dF] at h2;exact h2.2
  obtain⟨r,I⟩:∃ r,rows[stT L f rows cols x k]?=some r:=⟨_,dC (G k oM)⟩;have J:stT L f rows cols x (k+1)=aGo (zdL L f rows cols) (stT L f rows cols x k) l:=by
   unfold stT;rw [List.take_add_one,zeL d,Option.toList_some,zeE,F]
  obtain⟨r2,g,z⟩:=autT_row ho I n o;rw [← J] at g;have u:askT L f rows cols x k=f (r++zcY l++x.extract (k+1) x.size):=by
   unfold askT;rw [dH,I,rest_letter M d,F,ByteArray.append_assoc];rfl
  have v:askT L f rows cols x (k+1)=f (r2++x.extract (k+1) x.size):=by
   unfold askT;rw [dH,g];rfl
  rw [u,v] at m;refine openW_of (dB I) n o rfl fun hm=>?_;obtain⟨y,O,e⟩:=List.mem_map.1 hm;rw [zeD,zeD] at e;obtain⟨V,Y⟩:=List.append_inj' e rfl;rw [← z] at V;obtain⟨i,B⟩:=List.getElem?_of_mem O;have H:=hI.nd;have D:(rows.map (zcl f cols))[i]?=some (zcl f cols y):=by rw [dQ,B];rfl
  have E:(rows.map (zcl f cols))[stT L f rows cols x (k+1)]?=some (zcl f cols y):=by rw [dQ,g,V];rfl
  have C:i=stT L f rows cols x (k+1):=by
   obtain⟨R,S⟩:=List.getElem?_eq_some_iff.1 D;obtain⟨T,U⟩:=List.getElem?_eq_some_iff.1 E;have s:=List.pairwise_iff_getElem.1 H;rcases Nat.lt_trichotomy i (stT L f rows cols x (k+1)) with h1|h1|h1
   ·exact absurd (S.trans U.symm) (s _ _ R T h1)
   ·exact h1
   ·exact absurd (U.trans S.symm) (s _ _ T R h1)
  rw [C,g] at B;obtain rfl:=Option.some.inj B;have Z:=List.head_eq_of_cons_eq Y;rw [Z] at m;simp at m
 ·cases hs
theorem zfT (hI:zcT L f rows cols)(ho:zaZ L f rows cols=none)  {rs cs:List ByteArray}(h:zbB L f rows cols x=some (rs,cs)):rows.length<rs.length∧cs.length=cols.length+1:=by
 unfold zbB at h
 split at h
 ·cases h
 ·rename_i col hcol
  split at h
  ·rename_i ha;obtain⟨r,a,e⟩:=Option.map_eq_some_iff.1 h;obtain⟨rfl,rfl⟩:=Prod.mk.inj e;refine⟨?_,sM⟩;have c:=split_open hI ho hcol;obtain⟨z,d⟩:=Option.ne_none_iff_exists'.1 c;have g:=hI.r12;cases hk:12 - rows.length with
   |zero=>rw [hk,zea d] at a;cases a
   |succ k =>
    rw [hk,zdZ _ d] at a;have b:=(hI.addC ha).grow oM d;obtain⟨-,-,t,i⟩:=zfO _ _ _ b (by simp;omega) a;rw [i];simp<;>omega
  ·cases h
end
theorem zcC.tail (h:zcC w lo hi (some ⟨b,0,none⟩) (n+1) ss):zcC w lo hi (some ⟨b,3,none⟩) n ss.tail:=by
 obtain⟨e,cells,⟨o,p,i⟩,g⟩:=h;refine⟨by rw [List.length_tail];omega,cells.drop 3,⟨by rw [iO];omega,oM,fun d=>?_⟩,fun k s hs=>?_⟩
 ·obtain⟨l,f,h1,h2,a⟩:=i oM;obtain rfl:=Option.some.inj f;refine⟨⟨b,3,none⟩,rfl,h1,h2,fun j u hu=>?_⟩;rw [List.getElem?_drop] at hu;have:=a _ _ hu;rw [zP] at this ⊢;rw [Nat.zero_add] at this;exact this
 ·rw [List.getElem?_tail] at hs;obtain⟨B,m,c,d,h1,h2,a⟩:=g (k+1) s hs;refine⟨B,m,c,?_,?_,?_,a⟩<;>rw [List.getElem?_drop]
  ·rw [← d];congr 1;omega
  ·rw [← h1];congr 1;omega
  ·rw [← h2];congr 1;omega
theorem valid_len (h:zj s=true):s.edges.length<=1536:=by
 unfold zj at h;simp only [dF,decide_eq_true_eq,eC] at h;obtain⟨-,⟨h1,h2⟩,f⟩:=h;have j:∀ (k:Nat) (e:Edg),s.edges[k]?=some e->(k:Int)<=(e.fr*6+e.le)*16+e.ta∧(e.fr*6+e.le)*16+e.ta<1536:=by
  intro k
  induction k with
  |zero =>
   intro e he;have:=f 0 (List.mem_range.2 (List.getElem?_eq_some_iff.1 he).1);unfold zaO at this;rw [he] at this;simp only [edgB,dF,decide_eq_true_eq] at this;obtain⟨⟨⟨m,n⟩,⟨o,p⟩,r,c⟩,-⟩:=this;unfold hasB at c;simp only [dF,decide_eq_true_eq] at c;omega
  |succ k ih =>
   intro e he;have hk:=(List.getElem?_eq_some_iff.1 he).1;have:=f (k+1) (List.mem_range.2 hk);unfold zaO at this;rw [he] at this;obtain⟨q,i⟩:∃ q,s.edges[k]?=some q:=⟨_,dC oM⟩;have t:=ih q i;rw [show k+1 - 1=k by omega,i] at this;simp only [edgB,dF,gA,decide_eq_true_eq] at this;obtain⟨⟨⟨m,n⟩,⟨o,p⟩,r,c⟩,d⟩:=this;unfold hasB at c;simp only [dF,decide_eq_true_eq] at c;have a:=d.resolve_left oM;have b:=f k (List.mem_range.2 oM);unfold zaO at b;rw [i] at b;simp only [edgB,dF,gA,decide_eq_true_eq] at b;obtain⟨⟨⟨u,v⟩,⟨x,y⟩,z,l⟩,-⟩:=b;unfold hasB at l;simp only [dF,decide_eq_true_eq] at l;unfold ltE at a
   split at a
   ·split at a
    ·rw [decide_eq_true_eq] at a;omega
    ·rw [decide_eq_true_eq] at a;omega
   ·rw [decide_eq_true_eq] at a;omega
 rcases Nat.lt_or_ge 1536 s.edges.length with a|g
 ·have:=j 1536 _ (dC a);omega
 ·exact g
structure Vc where
 code:Int
 fst:Aut
 snd:Aut
 tr:ByteArray
 ro:Nat
noncomputable def zcg (x y z:Sys) (p:Aut) (L:Nat) (a:Aut):ByteArray × Int × Aut:=
 if zbg x a p=true then (zbc (zbh x a p) L,-1,noA)
 else if (vpT y z a).code=0 then (⟨#[]⟩,0,(vpT y z a).asm)
 else if (vpT y z a).code=2 then (⟨#[]⟩,2,noA)
 else (zbc (vpT y z a).tr L,if zr x p L (zbc (vpT y z a).tr L)=true then -1 else 1,noA)
noncomputable def chT (x y z:Sys) (p:Aut) (L:Nat):Nat->Nat->Option (List ByteArray × List ByteArray)->Vc
 |0,k,_=>⟨2,noA,noA,⟨#[]⟩,k⟩
 |_+1,k,none=>⟨2,noA,noA,⟨#[]⟩,k⟩
 |f+1,k,some tab =>
  if (zcg x y z p L (zdL L (zr x p L) tab.1 tab.2)).2.1=0 then ⟨0,zdL L (zr x p L) tab.1 tab.2,(zcg x y z p L (zdL L (zr x p L) tab.1 tab.2)).2.2,⟨#[]⟩,k+1⟩
  else if (zcg x y z p L (zdL L (zr x p L) tab.1 tab.2)).2.1=2 then ⟨2,noA,noA,⟨#[]⟩,k+1⟩
  else if (zcg x y z p L (zdL L (zr x p L) tab.1 tab.2)).2.1=1 then ⟨1,noA,noA,zav [x,y,z] p,k+1⟩
  else chT x y z p L f (k+1) (zbB L (zr x p L) tab.1 tab.2 (zcg x y z p L (zdL L (zr x p L) tab.1 tab.2)).1)
noncomputable def vcT (ss:List Sys) (p:Aut):Vc:=
 match ss with
 |[x,y,z]=>if 0<=zW [x,y,z] p then chT x y z p (zW [x,y,z] p).toNat 12 0 ((zar (zW [x,y,z] p).toNat (zr x p (zW [x,y,z] p).toNat) [⟨#[]⟩] 11 [⟨#[]⟩]).map fun r=>(r,[⟨#[]⟩])) else ⟨3,noA,noA,⟨#[]⟩,0⟩
 |_=>⟨3,noA,noA,⟨#[]⟩,0⟩
theorem runT_tr (s t:Sys) (p:Aut) (L f:Nat):∀ (k:Nat) (o:Option (List ByteArray × List ByteArray)),(runT s t p L f k o).tr=⟨#[]⟩∨(runT s t p L f k o).tr=zav [s,t] p:=by
 induction f with
 |zero=>intro k o;exact .inl rfl
 |succ f ih =>
  intro k o;cases o with
  |none=>exact .inl rfl
  |some tab =>
   rw [runT];split
   ·exact .inl rfl
   ·split
    ·exact .inr rfl
    ·exact ih _ _
theorem vpT_word (hs:zj s=true)(ht:zj t=true)(hp:zh p=true):zbF (vpT s t p).tr=true:=by
 have a:zbF (⟨#[]⟩:ByteArray)=true:=by unfold zbF;rfl
 rcases zec s t p with h|⟨L,h⟩
 ·rw [vpT_neg h];exact a
 ·rw [vpT_pos h];rcases runT_tr s t p L 12 0 ((zar L (zr s p L) [⟨#[]⟩] 11 [⟨#[]⟩]).map fun r=>(r,[⟨#[]⟩])) with e|e
  ·rw [e];exact a
  ·rw [e];exact (zeO (ss:=[s,t]) (p:=p) (zfF sM sM (by simp [hs,ht])) hp).1
def RetVdS (w:World) (v:Vd) (L:Nat) (e:Ending) (w':World):Prop:=
 ∃ (A:Option Addr) (n c:Nat) (A':Option Addr) (n' c':Nat),
  e=.returned (.tuple #[.agg #[v.code,v.asm.al,.slice A n c,.slice A' n' c',v.tr,v.ro],.string (zbc v.tr L)])∧zK w' w.heap.size A n c A' n' c' v.asm∧Ext w w'
section
variable {w:World} {lo hi c lo1 hi1 m d m' d' n1 c1 k1 d1 k1' d1' L b o:Nat} {A1 B B' X X':Option Addr} {x y z:Sys} {p a:Aut}
theorem yF12a3 {P:Prop}(h:P:=by
 simpa using (((((bG.ab 0 (.int .i64 v.code)).ab 1 (.int .i64 v.asm.al)).ab 2 (.slice Z1 z1 y1)).ab 3 (.slice Z2 z2 y2)).ab 4 (.string v.tr)).ab 5 (.int .i64 v.ro)
 ):P:=h
theorem zhp (h:zcC w lo hi (some ⟨b,o,none⟩) 3 [x,y,z])(ha:zE w lo1 hi1 X k1 X' k1' a) (vy:zj y=true) (vz:zj z=true) (va:zh a=true)(hhi:hi<=w.heap.size)(hL:L<64) :
  Calls Tryz.prog 61 #[.slice (some ⟨b,o,none⟩) 3 c,.agg #[x.al,x.st,.slice A1 n1 c1,p.al,.slice B m d,.slice B' m' d',L],.agg #[a.al,.slice X k1 d1,.slice X' k1' d1']] w (RetVdS w (vpT y z a) L):=by
 obtain⟨By,ny,cy,f0,f1,f2,V⟩:=h.ar (k:=1) (s:=y) rfl;obtain⟨Bz,nz,cz,g0,g1,g2,hz⟩:=h.ar (k:=2) (s:=z) rfl;have CL:∀ W,Ext w W->W.cell? ⟨b,o+3,none⟩=some (.int .i64 y.al)∧W.cell? ⟨b,o+4,none⟩=some (.int .i64 y.st)∧W.cell? ⟨b,o+5,none⟩=some (.slice By ny cy)∧W.cell? ⟨b,o+6,none⟩=some (.int .i64 z.al)∧W.cell? ⟨b,o+7,none⟩=some (.int .i64 z.st)∧W.cell? ⟨b,o+8,none⟩=some (.slice Bz nz cz):=fun W hW =>
  ⟨hW.aa (by simpa using f0),hW.aa (by simpa [eQ] using f1),hW.aa (by simpa [eQ] using f2),hW.aa (by simpa using g0),hW.aa (by simpa [eQ] using g1),hW.aa (by simpa [eQ] using g2)⟩
 have HV:=za (fun W (hW:Ext w W)=>zfs (c:=cy) (d:=d1) (d':=d1') (c2:=cz) (V.ext hW) (ha.ext hW) (hz.ext hW) (by have:=V.1;have:=valid_len vy;omega) (dK hhi hW.size));have U:=za (vpT_word vy vz va);clear h ha vy vz va f0 f1 f2 g0 g1 g2 V hz hhi;generalize vpT y z a=v at *
 go_enter Tryz.func61,Tryz.ntmps61
 go_upto_region 1 with fail
 generalize U0:((w.alloc _).alloc _).alloc _=u at *;obtain⟨t,b1,b2,b3⟩:=Ext.x3_ U0;clear U0;have C0:=b1.cells;have CA:=b2.cells;have M:=fun W (hW:Ext u W)=>CL W (t.trans hW);clear CL;have aC:=b3.lt
 go_cut [8] (fun v8 wx=>∃ (G:Nat) (Z1:Option Addr) (z1 y1:Nat) (Z2:Option Addr) (z2 y2:Nat),v8=.pointer (some G)∧u.heap.size<=G∧Blk wx G 42 #[v.code,v.asm.al,.slice Z1 z1 y1,.slice Z2 z2 y2,v.tr,v.ro]∧zK wx u.heap.size Z1 z1 y1 Z2 z2 y2 v.asm∧Ext u wx)
 case first =>
  have E:=cY u;refine uR (fun X=>Ext u X) [7,9] (zv.app [0,1,2,3,4,5,6] (zv.two 7 (zv.of [8,9]) 8 (zv.of [7,9]))) ?_;refine uQ ?_;have n:Ext u u.drew:=E.drew;have I:=n.size;generalize u.drew=Z at *;refine zm (fun K hK=>?_) (fun K hK=>?_)
  ·go_simp;refine (HV.out _ (t.trans n)).mono ?_;rintro e J ⟨Z1,z1,y1,Z2,z2,y2,rfl,ho,g⟩;refine hK.out _ _ (n.trans g) ?_;refine pT ?_;refine zd fun K hK=>?_;go_simp;have l:=(cY J).alloc (.cells #[(0:Int),(0:Int),(),(),.string ⟨#[]⟩,(0:Int)] 42);have f:=(n.trans g).trans l;have hG:u.heap.size<=J.heap.size:=(n.trans g).size;have r:=(ho.ext l).less I;refine hK.out _ _ f ?_;generalize U0:J.alloc _=w2 at *;have bG:=dV U0;clear U0;generalize J.heap.size=G at *;refine pT ?_;have R:=bG.cell;have S:=bG.frozen;refine zb fun K hK=>?_;go_simp;refine hK.out _ _ ?_;refine ze ?_;have q:=zeh w2 G (.int .i64 v.code) (.int .i64 v.asm.al) (.slice Z1 z1 y1) (.slice Z2 z2 y2) (.string v.tr) (.int .i64 v.ro);have D:Blk ((((((w2.setCell G v.code).setCell ⟨G,1,none⟩ v.asm.al).setCell ⟨G,2,none⟩ (.slice Z1 z1 y1)).setCell ⟨G,3,none⟩ (.slice Z2 z2 y2)).setCell ⟨G,4,none⟩ v.tr).setCell ⟨G,5,none⟩ v.ro) G 42 #[.int .i64 v.code,.int .i64 v.asm.al,.slice Z1 z1 y1,.slice Z2 z2 y2,.string v.tr,.int .i64 v.ro]:=by
    exact yF12a3
   have Q:=za (And.intro hG (And.intro D (And.intro (r.aq bG q dM) (f.frm q (fun k hk e=>oM)))));clear q D r ho f l g R S bG;go_wp2_with fail
   go_meet;exact⟨G,Z1,z1,y1,Z2,z2,y2,rfl,Q.out⟩
  ·go_simp;have l:=(cY Z).alloc (.cells #[(0:Int),(0:Int),(),(),.string ⟨#[]⟩,(0:Int)] 42);have f:=n.trans l;refine hK.out _ _ f ?_;generalize U0:Z.alloc _=J at *;have bG:=dV U0;clear U0;generalize Z.heap.size=G at *;refine pT ?_;refine zb fun K hK=>?_;go_simp;refine (HV.out _ (t.trans f)).mono ?_;rintro e w2 ⟨Z1,z1,y1,Z2,z2,y2,rfl,ho,g⟩;have C:=f.trans g;have r:=ho.less f.size;replace bG:=bG.ext g;refine hK.out _ _ ?_;refine pT ?_;have R:=bG.cell;have S:=bG.frozen;refine zb fun K hK=>?_;go_simp;refine hK.out _ _ ?_;refine ze ?_;have q:=zeh w2 G (.int .i64 v.code) (.int .i64 v.asm.al) (.slice Z1 z1 y1) (.slice Z2 z2 y2) (.string v.tr) (.int .i64 v.ro);have D:Blk ((((((w2.setCell G v.code).setCell ⟨G,1,none⟩ v.asm.al).setCell ⟨G,2,none⟩ (.slice Z1 z1 y1)).setCell ⟨G,3,none⟩ (.slice Z2 z2 y2)).setCell ⟨G,4,none⟩ v.tr).setCell ⟨G,5,none⟩ v.ro) G 42 #[.int .i64 v.code,.int .i64 v.asm.al,.slice Z1 z1 y1,.slice Z2 z2 y2,.string v.tr,.int .i64 v.ro]:=by
    exact yF12a3
   have Q:=za (And.intro I (And.intro D (And.intro (r.aq bG q dM) (C.frm q (fun k hk e=>oM)))));clear q D r ho C f l g R S bG;go_wp2_with fail
   go_meet;exact⟨G,Z1,z1,y1,Z2,z2,y2,rfl,Q.out⟩
 case rest =>
  obtain⟨G,Z1,z1,y1,Z2,z2,y2,rfl,hG,D,ho,F⟩:=hcut;have T:=za (zaG (s:=v.tr) (a:=L) (w:=wc.drew) U.out oM);have i:=b3.ext F;have aD:=D.lt;have av:=fun W (hW:Ext wc W)=>C0 W (F.trans hW);have CV:=D.cells;have E:=cY wc;clear C0 CA M;go_upto_region 2 with fail
  refine uR (fun X=>Ext wc X) [6] (zv.of [0,1,2,3,4,5,6,7]) ?_;refine uQ ?_;refine zd fun K hK=>?_;go_simp;refine T.out.mono (mQ fun Y C=>?_);have j:Ext wc Y:=E.drew.trans C;refine hK.out _ _ j ?_;refine pT ?_;replace i:=i.ext j;replace ho:=(ho.ext j).less t.size;have cR:=i.cell;have fR:=i.frozen;refine zb fun K hK=>?_;go_simp;refine hK.out _ _ ?_;refine uQ ?_;refine ze ?_;have q:=zeh Y (w.heap.size+1+1) (.int .i64 v.code) (.int .i64 v.asm.al) (.slice Z1 z1 y1) (.slice Z2 z2 y2) (.string v.tr) (.int .i64 v.ro);have bR:Blk ((((((Y.setCell ⟨w.heap.size+1+1,0,none⟩ v.code).setCell ⟨w.heap.size+1+1,1,none⟩ v.asm.al).setCell ⟨w.heap.size+1+1,2,none⟩ (.slice Z1 z1 y1)).setCell ⟨w.heap.size+1+1,3,none⟩ (.slice Z2 z2 y2)).setCell ⟨w.heap.size+1+1,4,none⟩ v.tr).setCell ⟨w.heap.size+1+1,5,none⟩ v.ro) (w.heap.size+1+1) 42 #[.int .i64 v.code,.int .i64 v.asm.al,.slice Z1 z1 y1,.slice Z2 z2 y2,.string v.tr,.int .i64 v.ro]:=by
   simpa using (((((i.ab 0 (.int .i64 v.code)).ab 1 (.int .i64 v.asm.al)).ab 2 (.slice Z1 z1 y1)).ab 3 (.slice Z2 z2 y2)).ab 4 (.string v.tr)).ab 5 (.int .i64 v.ro)
  have H:=za (show RetVdS w v L (.returned (.tuple #[.agg #[v.code,v.asm.al,.slice Z1 z1 y1,.slice Z2 z2 y2,v.tr,v.ro],.string (zbc v.tr L)])) _ from ⟨Z1,z1,y1,Z2,z2,y2,rfl,ho.aq i q dM,(t.trans (F.trans j)).frm q (fun k hk e=>oM)⟩);have O:=za bR;clear q bR i cR fR ho;go_wp2_with fail
  have cf:=O.out.cell;exact bodyPost_ret (v:=.tuple #[.agg #[v.code,v.asm.al,.slice Z1 z1 y1,.slice Z2 z2 y2,v.tr,v.ro],.string (zbc v.tr L)]) (by simp [results,Tryz.results61,go_sem,cf]) rfl H.out
end
theorem vc_frm (W:World) (Z:Nat) (u0 u1 u2 u3 u4 u5 u6 u7 u8:Value):Frm (fun k=>k=Z) W (((((((((W.setCell Z (u0)).setCell ⟨Z,1,none⟩ (u1)).setCell ⟨Z,2,none⟩ (u2)).setCell ⟨Z,3,none⟩ (u3)).setCell ⟨Z,4,none⟩ (u4)).setCell ⟨Z,5,none⟩ (u5)).setCell ⟨Z,6,none⟩ (u6)).setCell ⟨Z,7,none⟩ (u7)).setCell ⟨Z,8,none⟩ (u8)):=
 ((((((((dE W _ 0 _).trans (dE _ _ 1 _)).trans (dE _ _ 2 _)).trans (dE _ _ 3 _)).trans (dE _ _ 4 _)).trans (dE _ _ 5 _)).trans (dE _ _ 6 _)).trans (dE _ _ 7 _)).trans (dE _ _ 8 _)
theorem zgR {t:TypeId} (h:Blk W Z t vs)(h9:vs.size=9) (u0 u1 u2 u3 u4 u5 u6 u7 u8:Value):Blk (((((((((W.setCell Z (u0)).setCell ⟨Z,1,none⟩ (u1)).setCell ⟨Z,2,none⟩ (u2)).setCell ⟨Z,3,none⟩ (u3)).setCell ⟨Z,4,none⟩ (u4)).setCell ⟨Z,5,none⟩ (u5)).setCell ⟨Z,6,none⟩ (u6)).setCell ⟨Z,7,none⟩ (u7)).setCell ⟨Z,8,none⟩ (u8)) Z t #[u0,u1,u2,u3,u4,u5,u6,u7,u8]:=by
 obtain⟨a⟩:=vs
 match a,h9 with
 |[a0,a1,a2,a3,a4,a5,a6,a7,a8],_ =>
  simpa using ((((((((h.ab 0 u0).ab 1 u1).ab 2 u2).ab 3 u3).ab 4 u4).ab 5 u5).ab 6 u6).ab 7 u7).ab 8 u8
def zfK (w:World) (v:Vc) (e:Ending) (w':World):Prop:=
 ∃ (A:Option Addr) (n c:Nat) (A':Option Addr) (n' c':Nat) (C:Option Addr) (k d:Nat) (C':Option Addr) (k' d':Nat),
  e=.returned (.agg #[v.code,v.fst.al,.slice A n c,.slice A' n' c',v.snd.al,.slice C k d,.slice C' k' d',v.tr,v.ro])∧zK w' w.heap.size A n c A' n' c' v.fst∧zK w' w.heap.size C k d C' k' d' v.snd∧Ext w w'
theorem zfK.cast {v u:Vc} (hu:u=v)(h:zfK w v e W):zfK w u e W:=hu ▸ h
theorem zdt (W:World) (base:Nat):zK W base none 0 0 none 0 0 noA:=⟨⟨[],World.ownsRow_nil _ _ _ _,zH.nil _ _⟩,rfl,World.ownsRow_nil _ _ _ _,rfl⟩
theorem zgo {d k' d':Nat} {C':Option Addr} {v:Vc} (hx:Ext w W)(hv:Blk W Z 33 vs) (_h9:vs.size=9)(hZ:w.heap.size<=Z)(ho:zK W w.heap.size A n c A' n' c' v.fst)(ho2:zK W w.heap.size C k d C' k' d' v.snd) :
  zfK w v (.returned (.agg #[v.code,v.fst.al,.slice A n c,.slice A' n' c',v.snd.al,.slice C k d,.slice C' k' d',v.tr,v.ro]))
   (((((((((W.setCell Z v.code).setCell ⟨Z,1,none⟩ v.fst.al).setCell ⟨Z,2,none⟩ (.slice A n c)).setCell ⟨Z,3,none⟩ (.slice A' n' c')).setCell ⟨Z,4,none⟩ v.snd.al).setCell ⟨Z,5,none⟩ (.slice C k d)).setCell ⟨Z,6,none⟩ (.slice C' k' d')).setCell ⟨Z,7,none⟩ v.tr).setCell ⟨Z,8,none⟩ v.ro):=by
 have a:=vc_frm W Z (.int .i64 v.code) (.int .i64 v.fst.al) (.slice A n c) (.slice A' n' c') (.int .i64 v.snd.al) (.slice C k d) (.slice C' k' d') (.string v.tr) (.int .i64 v.ro);exact⟨A,n,c,A',n',c',C,k,d,C',k',d',rfl,ho.aq hv a dM,ho2.aq hv a dM,hx.frm a (fun k hk e=>oM)⟩
section
variable {w:World} {lo hi c lo1 hi1 m d m' d' n:Nat} {A B B':Option Addr} {ss:List Sys} {p:Aut}
theorem zho {r:Int}(h:zcC w lo hi A n ss)(hp:zE w lo1 hi1 B m B' m' p) :
  Calls Tryz.prog 63 #[.slice A n c,.agg #[p.al,.slice B m d,.slice B' m' d'],r] w fun e w'=>e=.returned (.agg #[(1:Int),(0:Int),(),(),(0:Int),(),(),.string (zav ss p),r])∧Ext w w':=by
 have l:=za (fun W (hW:Ext w W)=>zaL (c:=c) (d2:=d) (d2':=d') (h.ext hW) (hp.ext hW));clear h hp;generalize zav ss p=i at *;generalize zbQ ss p=x at *
 go_enter Tryz.func63,Tryz.ntmps63
 go_upto_region 1 with fail
 generalize U0:(w.alloc _).alloc _=D at *;obtain⟨f,o,q⟩:=gV U0;clear U0;have y:=o.cell;go_upto_region 2 with (first
  |(go_at_call 150;refine (l.out _ f).mono (mQ fun u g=>?_)))
 have a:=q.ext g;have C:=a.cell;have z:=a.frozen;have j:=vc_frm u (w.heap.size+1) (.int .i64 1) (.int .i64 0) (.slice none 0 0) (.slice none 0 0) (.int .i64 0) (.slice none 0 0) (.slice none 0 0) (.string i) (.int .i64 r);have t:=za (zgR a rfl (.int .i64 1) (.int .i64 0) (.slice none 0 0) (.slice none 0 0) (.int .i64 0) (.slice none 0 0) (.slice none 0 0) (.string i) (.int .i64 r));have b:=za ((f.trans g).frm j (fun k hk e=>oM));clear j a;go_wp2_with fail
 have s:=t.out.cell;exact bodyPost_ret (v:=.agg #[(1:Int),(0:Int),(),(),(0:Int),(),(),i,r]) (by simp [results,Tryz.results63,go_sem,s]) rfl ⟨rfl,b.out⟩
theorem zeV (h:zcC w lo hi A n ss)(hp:zE w lo1 hi1 B m B' m' p)(h3:three ss p=false) :
  Calls Tryz.prog 18 #[.slice A n c,.agg #[p.al,.slice B m d,.slice B' m' d']] w (zfK w ⟨3,noA,noA,⟨#[]⟩,0⟩):=by
 have j:=za (show zW ss p = -1 by unfold zW;rw [h3];rfl);have b:=za (fun W (hW:Ext w W)=>zba (c:=c) (d:=d) (d':=d') (h.ext hW) (hp.ext hW));rw [j.out] at b;clear h hp h3;generalize zaM ss p=x at *
 go_enter Tryz.func18,Tryz.ntmps18
 go_upto_region 1 with fail
 generalize U0:(w.alloc _).alloc _=y at *;obtain⟨g,l,o⟩:=gV U0;clear U0;have s:=l.cell;go_upto_region 3 with (first
  |(go_at_call 56;refine (b.out _ g).mono (mQ fun k i=>?_)))
 have a:=o.ext i;have u:=a.cell;have t:=a.frozen;have r:=za (zgR a rfl (.int .i64 3) (.int .i64 0) (.slice none 0 0) (.slice none 0 0) (.int .i64 0) (.slice none 0 0) (.slice none 0 0) (.string ⟨#[]⟩) (.int .i64 0));have f:=za (zgo (v:=⟨3,noA,noA,⟨#[]⟩,0⟩) (g.trans i) a rfl oM (zdt k _) (zdt k _));clear a;go_wp2_with fail
 have q:=r.out.cell;exact bodyPost_ret (v:=.agg #[(3:Int),(0:Int),(),(),(0:Int),(),(),.string ⟨#[]⟩,(0:Int)]) (by simp [results,Tryz.results18,go_sem,q]) rfl f.out
theorem yF12a1 {P:Prop}(h:P:=by
 generalize zbB L (zr x p L) rs cs rw_=oL at *;generalize U0:wF.alloc _=wG at *;have hxG:=Ext.al_ U0;have b19:=Ext.bl_ U0;clear U0;have b9G:=b9E.ext (hxF.trans hxG);have hxG2:=hxE.trans (hxF.trans hxG);have k19:=b19.cell;have k9G:=b9G.cell;have f9G:=b9G.frozen;have hfH:Frm (fun b=>b=G) wG ((wG.setCell G (.slice R2 nr2 cr2)).setCell ⟨G,1,none⟩ (.slice C2 nc2 cc2)):=(Frm.setCell wG _ 0 _).trans (Frm.setCell _ _ 1 _);have hTMH:TabM w2 ((wG.setCell G (.slice R2 nr2 cr2)).setCell ⟨G,1,none⟩ (.slice C2 nc2 cc2)) G oL:=
  ⟨nr2,nc2,R2,cr2,C2,cc2,by simpa using (b9G.ab 0 (.slice R2 nr2 cr2)).ab 1 (.slice C2 nc2 cc2),hcr2,hcc2,fun rs' cs' e=>by
   have h1:=zg (hT2 rs' cs' e).1 hxG;have h2:=zg (hT2 rs' cs' e).2 hxG;exact⟨zf h1 hfH (fun b hv e'=>zp h1 b9G dM hv e'),zf h2 hfH (fun b hv e'=>zp h2 b9G dM hv e')⟩⟩
 have hxH:=hxG2.frm hfH (fun k hk e=>oM);clear cTc k9 b9E oRE oCE b9G hfH b19 hT2 hxF hxG hxG2 HTatE;go_upto_region 25 with fail
 generalize (wG.setCell G (.slice R2 nr2 cr2)).setCell ⟨G,1,none⟩ (.slice C2 nc2 cc2)=wH at *;clear k19 k9G f9G;go_wp2_with fail
 go_roundw
 case rel=>exact⟨oL,j+1,rfl,by push_cast;rfl,oM,za (fun rs' cs' e=>by have:=hmore.out rs' cs' e;have:=hjl.out;omega),hokL,hrunL,hTMH,hxH⟩
 case measure=>simp [intOf];omega
 ):P:=h
theorem zeW {x y z:Sys} {o:Nat}(h:zcC w lo hi (some ⟨b,o,none⟩) 3 [x,y,z])(hp:zE w lo1 hi1 B m B' m' p)(h3:three [x,y,z] p=true)(hc:zW [x,y,z] p=(L:Int))(hL:L<64)(hhi:hi<=w.heap.size)(hhi1:hi1<=w.heap.size) :
  Calls Tryz.prog 18 #[.slice (some ⟨b,o,none⟩) 3 c,.agg #[p.al,.slice B m d,.slice B' m' d']] w (zfK w (chT x y z p L 12 0 ((zar L (zr x p L) [⟨#[]⟩] 11 [⟨#[]⟩]).map fun r=>(r,[⟨#[]⟩])))):=by
 obtain⟨-,br,vp⟩:=zcQ.1 h3;obtain⟨-,hv⟩:=zap br;have vx:=hv x sM;have vy:=hv y sM;have vz:=hv z sM;obtain⟨A1,n1,c1,f0,f1,f2,ba⟩:=h.ar (k:=0) (s:=x) rfl;have CL:∀ W,Ext w W->W.cell? ⟨b,o,none⟩=some (.int .i64 x.al)∧W.cell? ⟨b,o+1,none⟩=some (.int .i64 x.st)∧W.cell? ⟨b,o+2,none⟩=some (.slice A1 n1 c1):=fun W hW =>
  ⟨hW.aa (by simpa using f0),hW.aa (by simpa using f1),hW.aa (by simpa using f2)⟩
 have a2:Tch w A1 n1 B m B' m' x p L:=⟨⟨min lo lo1,max hi hi1,ba.more (Nat.min_le_left _ _) (Nat.le_max_left _ _),hp.more (Nat.min_le_right _ _) (Nat.le_max_right _ _),Nat.max_le.2 ⟨hhi,hhi1⟩⟩,vx,vp,hL⟩;have bi:=za (fun W (hW:Ext w W)=>zba (c:=c) (d:=d) (d':=d') (h.ext hW) (hp.ext hW));rw [hc] at bi;have bS:=za (fun W (hW:Ext w W) (r:Int)=>zho (c:=c) (d:=d) (d':=d') (r:=r) (h.ext hW) (hp.ext hW));have bX:=za (fun W (hW:Ext w W) (a:Aut) (X:Option Addr) (k1 d1:Nat) (X':Option Addr) (k1' d1' l1 l2:Nat) (ha:zE W l1 l2 X k1 X' k1' a)=>zbr (c:=c1) (d1:=d1) (d1':=d1') (d2:=d) (d2':=d') (ba.ext hW) ha (hp.ext hW));have HJ:=za (fun W (hW:Ext w W) (a:Aut) (X:Option Addr) (k1 d1:Nat) (X':Option Addr) (k1' d1' l1 l2:Nat) (ha:zE W l1 l2 X k1 X' k1' a) (va:zh a=true)=>zhp (c:=c) (A1:=A1) (n1:=n1) (c1:=c1) (p:=p) (B:=B) (m:=m) (d:=d) (B':=B') (m':=m') (d':=d') (d1:=d1) (d1':=d1') (h.ext hW) ha vy vz va (dK hhi hW.size) hL);have Hv:=za (And.intro vx (And.intro vy (And.intro vz vp)));obtain⟨H,bb⟩:∃ H,Hid (chT x y z p L 12 0 ((zar L (zr x p L) [⟨#[]⟩] 11 [⟨#[]⟩]).map fun r=>(r,[⟨#[]⟩]))=H):=⟨_,rfl⟩;have aw:=za (zdo.new L (zr x p L));rw [bb.out];obtain⟨aa,aO⟩:∃ aa,Hid ((zar L (zr x p L) [⟨#[]⟩] 11 [⟨#[]⟩]).map (fun r=>(r,[(⟨#[]⟩:ByteArray)]))=aa):=⟨_,rfl⟩;rw [aO.out] at bb aw;have a1:=za (fun rs cs (e:aa=some (rs,cs))=>show 0<rs.length from by have:=((aw.out rs cs e).1).r1;omega);clear h hp h3 hc br vp hv vx vy vz f0 f1 f2 ba;generalize zaM [x,y,z] p=q2 at *;have bp:¬ (L:Int)<0:=oM
 go_enter Tryz.func18,Tryz.ntmps18
 go_upto_region 1 with fail
 generalize U0:(w.alloc _).alloc _=w0 at *;obtain⟨u,b1,b2⟩:=gV U0;clear U0;have cO:=b2.lt;have cN:w.heap.size<=w.heap.size+1:=oM;have aT:=b1.cells;have bx:=cY w0;go_upto_region 4 with (first
  |(go_at_call 56;refine (bi.out _ u).mono (mQ fun w1 a4=>?_)))
 generalize w.heap.size+1=Z at *;have bN:=fun W (hW:Ext w1 W)=>CL W (u.trans (a4.trans hW));have bP:=fun W (hW:Ext w1 W)=>aT W (a4.trans hW);clear bx bp
 go_cut [7] (fun v wx=>∃ G:Nat,v=.pointer (some G)∧Blk wx G 70 #[x.al,x.st,.slice A1 n1 c1,p.al,.slice B m d,.slice B' m' d',L]∧Ext w1 wx)
 case first =>
  have cd:=cY w1;have bB:Ext w1 w1.drew:=cd.drew;refine uR (fun X=>Ext w1 X) [7] (zv.of [0,1,2,3,4,5,6,7]) ?_;refine uQ ?_;generalize w1.drew=wd at *;refine zd fun K hK=>?_;go_simp;have bA:=(cY wd).alloc (.cells #[(0:Int),(0:Int),(),(0:Int),(),(),(0:Int)] 70);have a5:=bB.trans bA;have cT:=bB.size;refine hK.out _ _ a5 ?_;generalize U0:wd.alloc _=we at *;have bG:=dV U0;clear U0;generalize wd.heap.size=G at *;refine pT ?_;have cG:=bG.cell;have fG:=bG.frozen;refine zb fun K hK=>?_;go_simp;refine hK.out _ _ ?_;refine ze ?_;have hf:Frm (fun k=>k=G) we (((((((we.setCell G x.al).setCell ⟨G,1,none⟩ x.st).setCell ⟨G,2,none⟩ (.slice A1 n1 c1)).setCell ⟨G,3,none⟩ p.al).setCell ⟨G,4,none⟩ (.slice B m d)).setCell ⟨G,5,none⟩ (.slice B' m' d')).setCell ⟨G,6,none⟩ L):=
   ((((((dE we _ 0 _).trans (dE _ _ 1 _)).trans (dE _ _ 2 _)).trans (dE _ _ 3 _)).trans (dE _ _ 4 _)).trans (dE _ _ 5 _)).trans (dE _ _ 6 _)
  have bW:Blk (((((((we.setCell G x.al).setCell ⟨G,1,none⟩ x.st).setCell ⟨G,2,none⟩ (.slice A1 n1 c1)).setCell ⟨G,3,none⟩ p.al).setCell ⟨G,4,none⟩ (.slice B m d)).setCell ⟨G,5,none⟩ (.slice B' m' d')).setCell ⟨G,6,none⟩ L) G 70 #[.int .i64 x.al,.int .i64 x.st,.slice A1 n1 c1,.int .i64 p.al,.slice B m d,.slice B' m' d',.int .i64 L]:=by
   simpa using ((((((bG.ab 0 (.int .i64 x.al)).ab 1 (.int .i64 x.st)).ab 2 (.slice A1 n1 c1)).ab 3 (.int .i64 p.al)).ab 4 (.slice B m d)).ab 5 (.slice B' m' d')).ab 6 (.int .i64 L)
  have Hf:=za (And.intro bW (a5.frm hf (fun k hk e=>oM)));clear hf bW a5 bA cG fG bG;go_wp2_with fail
  go_meet;exact⟨G,rfl,Hf.out⟩
 case rest =>
  obtain⟨GK,rfl,bK,aP⟩:=hcut;have cK:=bK.cell;go_upto_region 6 with fail
  obtain⟨GT,b4⟩:∃ GT,Hid (wc.heap.size=GT):=⟨_,rfl⟩;generalize U0:wc.alloc _=w2 at *;have a9:=gC U0;have bT:=dV U0;clear U0;rw [b4.out] at bT ⊢;have g:=a4.trans (aP.trans a9);replace bK:=bK.ext a9;clear cK;have cQ:=bK.lt;have cR:=bT.lt;have n:=a2.ext (u.trans g);have aU:=bT.cells;have bQ:=bK.cells;have bO:=fun W (hW:Ext w2 W)=>CL W (u.trans (g.trans hW));have bf:=fun W (hW:Ext w2 W)=>aT W (g.trans hW);have bl:=za (fun W (hW:Ext w2 W)=>zeF (c:=c1) (d:=d) (d':=d') (n.ext hW));rw [aO.out] at bl;have bV:=za (fun (R:Option Addr) (nr cr:Nat) (C:Option Addr) (nc cc:Nat) (rows cols:List ByteArray) W (hW:Ext w2 W) hT hI Q O ad=>zbq (c:=c1) (d:=d) (d':=d') (nr:=nr) (nc:=nc) (R:=R) (C:=C) (cr:=cr) (cc:=cc) (rows:=rows) (cols:=cols) (n.ext hW) hT hI Q O ad);have bk:=za (fun (R:Option Addr) (nr cr:Nat) (C:Option Addr) (nc cc:Nat) (rows cols:List ByteArray) (x':ByteArray) W (hW:Ext w2 W) hT hI Q O ad hx=>zdS (c:=c1) (d:=d) (d':=d') (nr:=nr) (nc:=nc) (R:=R) (C:=C) (cr:=cr) (cc:=cc) (rows:=rows) (cols:=cols) (x:=x') (n.ext hW) hT hI Q O ad hx);have bU:=za (fun W (hW:Ext w2 W) (y':ByteArray) hy=>by
   obtain⟨lo,hi,h1,h2,h3⟩:=n.at_;exact zdd (c:=c1) (d:=d) (d':=d') (L:=L) (t:=y') (h1.ext hW) (h2.ext hW) n.sv n.pv n.lt (dK h3 hW.size) hy)
  have bz:=cY w2;clear CL bN bP aT aP a9 bK bT;go_upto_region 7 with (first
   |(go_at_call 57;refine (bl.out _ bz).mono ?_;intro e w3 hret;obtain⟨a6,nr,nc,R,cr,C,cc,rfl,Q,O,aZ⟩:=hret.fill (w0:=w2) (dD _);clear hret))
  obtain⟨G,hG⟩:∃ G,Hid (w3.heap.size=G):=⟨_,rfl⟩;have cM:w2.heap.size<=G:=by rw [← hG.out];exact a6.size
  generalize U0:w3.alloc _=w6 at *;have am:=gC U0;have b9:=dV U0;clear U0;rw [hG.out] at b9 ⊢;have aQ:=a6.trans am;have au:TabM w2 w6 G aa:=⟨nr,nc,R,cr,C,cc,b9,Q,O,fun rs cs e=>⟨zg (aZ rs cs e).1 am,zg (aZ rs cs e).2 am⟩⟩;clear aZ b9 a6 am;go_wp2_with fail
  go_loopw [10,11] (fun fv rv wr=>∃ (q:Option (List ByteArray × List ByteArray)) (j:Nat),fv=.bool q.isSome∧rv=.int .i64 j∧j<=12∧Hid (∀ rs cs,q=some (rs,cs)->j<rs.length)∧Hid (zdo L (zr x p L) q)∧Hid (chT x y z p L (12 - j) j q=H)∧TabM w2 wr G q∧Ext w2 wr) (fun _ rv _=>12 - (intOf rv).toNat)
  case atStart=>exact⟨aa,0,rfl,rfl,oM,a1,aw,bb,au,aQ⟩
  case round =>
   clear au aQ;obtain⟨q,j,rfl,rfl,cz,aA,a0,aj,au,V⟩:=hrel;cases q with
   |none =>
    have af:=za (show H=⟨2,noA,noA,⟨#[]⟩,j⟩ by rw [← aj.out];cases 12 - j<;>rfl)
    have hflag:(none:Option (List ByteArray × List ByteArray)).isSome=false:=rfl;rw [hflag];clear au a0 aA aj hflag;have M:=b2.ext (g.trans V);have kZ:=M.cell;have fZ:=M.frozen;have F2:=za (zgR M rfl (.int .i64 2) (.int .i64 0) (.slice none 0 0) (.slice none 0 0) (.int .i64 0) (.slice none 0 0) (.slice none 0 0) (.string ⟨#[]⟩) (.int .i64 j));have F1:=za (zfK.cast af.out (zgo (v:=⟨2,noA,noA,⟨#[]⟩,j⟩) (u.trans (g.trans V)) M rfl oM (zdt wr _) (zdt wr _)));clear M;go_wp2_with fail
    have cf2:=F2.out.cell;simp only [noA] at F1;exact bodyPost_ret (v:=.agg #[(2:Int),(0:Int),(),(),(0:Int),(),(),.string ⟨#[]⟩,j]) (by simp [results,Tryz.results18,go_sem,cf2]) rfl F1.out
   |some tab =>
    obtain⟨rs,cs⟩:=tab;obtain⟨hI,ad⟩:=a0.out rs cs rfl;have hj:j<12:=by have:=aA.out rs cs rfl;have:=hI.r12;omega
    have hjl:=za (aA.out rs cs rfl);have hflag:(some (rs,cs)).isSome=true:=rfl;rw [hflag];obtain⟨nr,nc,R,cr,C,cc,b9,Q,O,bo⟩:=au;obtain⟨oR,oC⟩:=bo rs cs rfl;have aJ:=za (show TabAt wr R nr C nc rs cs from ⟨_,_,_,_,dY oR,dY oC⟩);have k9:=b9.cell;have cTc:=aU wr V;have ab:=za hI;have S:=za ad;have aC:=za (zcE hI ad n.lt);clear hI ad bo hflag a0 aA;go_upto_region 11 with (first
     |(go_at_call 58;refine (bV.out _ _ _ _ _ _ rs cs _ V aJ.out ab.out Q O S.out).mono ?_;rintro e wB ⟨Y,q1,e1,Y',aH,az,rfl,ag,aD⟩))
    obtain⟨f,aN⟩:∃ f,Hid (zdL L (zr x p L) rs cs=f):=⟨_,rfl⟩;rw [aN.out] at ag aC ⊢;have cS:=za (V.trans aD).size;have b7:=za V.size;have cA:=za aD.size;obtain⟨GA,b3⟩:∃ GA,Hid (wB.heap.size=GA):=⟨_,rfl⟩;generalize U0:wB.alloc _=wC at *;have a7:=gC U0;have aV:=dV U0;have F:=ag.ext a7;clear U0;rw [b3.out] at aV ⊢;have T:=aD.trans a7;have ay:=b9.ext T;have aG:=zg oR T;have aF:=zg oC T;have D:=V.trans T;have a3:=zel Hv.out.1 aC.out Hv.out.2.2.2;have aB:=za a3.1;have b8:=za a3.2;have i:=za (show (if (zcg x y z p L f).2.1=0 then (⟨0,f,(zcg x y z p L f).2.2,⟨#[]⟩,j+1⟩:Vc) else if (zcg x y z p L f).2.1=2 then ⟨2,noA,noA,⟨#[]⟩,j+1⟩ else if (zcg x y z p L f).2.1=1 then ⟨1,noA,noA,zav [x,y,z] p,j+1⟩ else chT x y z p L (12 - (j+1)) (j+1) (zbB L (zr x p L) rs cs (zcg x y z p L f).1))=H by
     rw [← aj.out,show 12 - j=(12 - (j+1))+1 by omega];show _=chT x y z p L ((12 - (j+1))+1) j (some (rs,cs));rw [chT,aN.out])
    have Hj:=za (show zcg x y z p L f=if zbg x f p=true then (zbc (zbh x f p) L,-1,noA)
     else if (vpT y z f).code=0 then (⟨#[]⟩,0,(vpT y z f).asm)
     else if (vpT y z f).code=2 then (⟨#[]⟩,2,noA)
     else (zbc (vpT y z f).tr L,if zr x p L (zbc (vpT y z f).tr L)=true then -1 else 1,noA) from rfl)
    have E:=za (bX.out wC.drew (u.trans (g.trans D.drew)) f Y q1 e1 Y' aH az _ _ (F.ext ((cY wC).drew)).reads);obtain⟨uw,bu⟩:∃ uw,Hid (zbh x f p=uw):=⟨_,rfl⟩;rw [bu.out] at aB b8 E Hj;have b6:=za (zaX (zbj (zeC aB.out L)));generalize zcg x y z p L f=J at *;have bg:=fun W (hW:Ext wC W)=>bf W (D.trans hW);have be:=fun W (hW:Ext wC W)=>bO W (D.trans hW);have aS:=aV.cells;have ak:=cY wC;clear aj b9 oR oC ag k9 cTc aJ a3 a7 aD T V;cases hub:zbg x f p
    ·rw [hub] at E Hj;clear hub;have ap:=za (show J=if (vpT y z f).code=0 then (⟨#[]⟩,0,(vpT y z f).asm) else if (vpT y z f).code=2 then (⟨#[]⟩,2,noA) else (zbc (vpT y z f).tr L,if zr x p L (zbc (vpT y z f).tr L)=true then -1 else 1,noA) by rw [Hj.out];rfl);have ca:=za (vpT_word Hv.out.2.1 Hv.out.2.2.1 aC.out);refine uR (fun X=>Ext wC X) [5] (zv.of [0,1,2,3,4,5,6,7,8,9,10]) ?_;refine uQ ?_;refine zb fun K hK=>?_;go_simp;refine E.out.mono (mQ fun wD U=>?_);have I:=ak.drew.trans U;clear U;refine hK.out _ _ ?_;refine pT ?_;refine uQ ?_;refine ze ?_;have ar:=za (zaG (s:=uw) (a:=L) (w:=wD) aB.out oM);have bj:=za (fun W (hW:Ext wC W)=>HJ.out W (u.trans (g.trans (D.trans hW))) f Y q1 e1 Y' aH az _ _ (F.ext hW).reads aC.out);generalize vpT y z f=v at *;have bh:=fun W (hW:Ext wC W)=>bQ W (D.trans hW);go_upto_region 15 with (first
      |(go_at_call 60;refine ar.out.mono (mQ fun cW an=>?_);replace I:=I.trans an)
      |(go_at_call 61;refine (bj.out _ I).mono ?_;rintro e wJ ⟨Z1,z1,y1,Z2,z2,y2,rfl,bq,a8⟩))
     obtain⟨GV,b5⟩:∃ GV,Hid (wJ.heap.size=GV):=⟨_,rfl⟩;have cU:=(u.trans (g.trans (D.trans I))).size;generalize U0:wJ.alloc _=wE at *;have aE:=gC U0;have aW:=dV U0;have hxE:Ext w2 wE:=D.trans (I.trans (a8.trans aE));have l:Ext wC wE:=I.trans (a8.trans aE);have ah:=F.ext l;have av:=bq.ext aE;have b9E:=ay.ext l;have oRE:=zg aG l;have oCE:=zg aF l;clear U0;rw [b5.out] at aW ⊢;have bC:=aW.cell;have aI:=aS wE l;clear ak aS bg be aE bq a8 I ay aG aF F E ar bj
     by_cases hv0:v.code=0
     ·have af:=za (show H=⟨0,f,v.asm,⟨#[]⟩,j+1⟩ by rw [← i.out,ap.out,if_pos hv0];rfl);have e0:(v.code==0)=true:=by simpa using hv0
      clear i ap Hj b9E oRE oCE hv0;have M:=b2.ext (g.trans hxE);have kZ:=M.cell;have fZ:=M.frozen;have F2:=za (zgR M rfl (.int .i64 0) (.int .i64 f.al) (.slice Y q1 e1) (.slice Y' aH az) (.int .i64 v.asm.al) (.slice Z1 z1 y1) (.slice Z2 z2 y2) (.string ⟨#[]⟩) (.int .i64 ((j:Int)+1)));have F1:=za (zfK.cast af.out (zgo (v:=⟨0,f,v.asm,⟨#[]⟩,j+1⟩) (u.trans (g.trans hxE)) M rfl oM (ah.less (by have:=u.size;have:=g.size;have:=b7.out;omega)) (av.less oM)));clear M;go_wp2_with fail
      have cf2:=F2.out.cell;simp only [gO,iA] at F1;exact bodyPost_ret (v:=.agg #[(0:Int),f.al,.slice Y q1 e1,.slice Y' aH az,v.asm.al,.slice Z1 z1 y1,.slice Z2 z2 y2,.string ⟨#[]⟩,((j:Int)+1:Int)]) (by simp [results,Tryz.results18,go_sem,cf2]) rfl F1.out
     ·by_cases hv2:v.code=2
      ·have af:=za (show H=⟨2,noA,noA,⟨#[]⟩,j+1⟩ by rw [← i.out,ap.out,if_neg hv0,if_pos hv2];rfl);have e0:(v.code==0)=false:=by simpa using hv0
       have e2:(v.code==2)=true:=by simpa using hv2
       clear i ap Hj b9E oRE oCE hv0 hv2 ah av;have M:=b2.ext (g.trans hxE);have kZ:=M.cell;have fZ:=M.frozen;have F2:=za (zgR M rfl (.int .i64 2) (.int .i64 0) (.slice none 0 0) (.slice none 0 0) (.int .i64 0) (.slice none 0 0) (.slice none 0 0) (.string ⟨#[]⟩) (.int .i64 ((j:Int)+1)));have F1:=za (zfK.cast af.out (zgo (v:=⟨2,noA,noA,⟨#[]⟩,j+1⟩) (u.trans (g.trans hxE)) M rfl oM (zdt wE _) (zdt wE _)));clear M;go_wp2_with fail
       have cf2:=F2.out.cell;simp only [noA,gO,iA] at F1;exact bodyPost_ret (v:=.agg #[(2:Int),(0:Int),(),(),(0:Int),(),(),.string ⟨#[]⟩,((j:Int)+1:Int)]) (by simp [results,Tryz.results18,go_sem,cf2]) rfl F1.out
      ·have e0:(v.code==0)=false:=by simpa using hv0
       have e2:(v.code==2)=false:=by simpa using hv2
       have bs:=za (zaX (zbj (zeC ca.out L)));have bn:=bh wE l;obtain⟨sf,bt⟩:∃ sf,Hid (zr x p L (zbc v.tr L)=sf):=⟨_,rfl⟩;have aq:=za (bU.out wE hxE (zbc v.tr L) (oH bs.out));rw [bt.out] at aq;have aY:=za (show J=(zbc v.tr L,if sf=true then -1 else 1,noA) by rw [ap.out,if_neg hv0,if_neg hv2,bt.out]);generalize zbc v.tr L=rw_ at *;clear ap Hj hv0 hv2 ah av;cases sf
       ·have af:=za (show H=⟨1,noA,noA,zav [x,y,z] p,j+1⟩ by rw [← i.out,aY.out];rfl);clear i b9E oRE oCE;go_upto_region 21 with (first
         |(go_at_call 62;refine aq.out.mono (mQ fun wF hxF=>?_)))
        have ao:=hxE.trans hxF;have cP:=bf wF ao;have bR:=za (bS.out wF (u.trans (g.trans ao)) ((j:Int)+1));clear bn bC aI aq;generalize zav [x,y,z] p=bw at *;have ae:=za (fun W (hW:Ext wF W)=>show Blk W Z 33 #[(0:Int),(0:Int),(),(),(0:Int),(),(),.string ⟨#[]⟩,(0:Int)] from b2.ext (g.trans (ao.trans hW)));go_wp2_with (first
         |(go_at_call 63;refine bR.out.mono (mQ fun wG hxG=>?_);have kZ:=(ae.out wG hxG).cell;have fZ:=(ae.out wG hxG).frozen))
        have M:=ae.out wG hxG;have F2:=zgR M rfl (.int .i64 1) (.int .i64 0) (.slice none 0 0) (.slice none 0 0) (.int .i64 0) (.slice none 0 0) (.slice none 0 0) (.string bw) (.int .i64 ((j:Int)+1));have F1:=zfK.cast af.out (zgo (v:=⟨1,noA,noA,bw,j+1⟩) (u.trans (g.trans (ao.trans hxG))) M rfl oM (zdt wG _) (zdt wG _));have cf2:=F2.cell;simp only [noA,gO,iA] at F1;exact bodyPost_ret (v:=.agg #[(1:Int),(0:Int),(),(),(0:Int),(),(),bw,((j:Int)+1:Int)]) (by simp [results,Tryz.results18,go_sem,cf2]) rfl F1
       ·have hrunL:=za (show chT x y z p L (12 - (j+1)) (j+1) (zbB L (zr x p L) rs cs rw_)=H by
         have:=i.out;rw [aY.out] at this;exact this)
        clear i aY;go_upto_region 22 with (first
         |(go_at_call 62;refine aq.out.mono (mQ fun wF hxF=>?_)))
        replace hxE:=hxE.trans hxF;replace b9E:=b9E.ext hxF;replace oRE:=zg oRE hxF;replace oCE:=zg oCE hxF;clear bn bC aI aq l aW;obtain⟨wE,cb⟩:∃ wE,wE=wF:=⟨_,rfl⟩;subst cb;have hokL:=za (zdo.learn ab.out rw_);have hmore:=za (fun rs' cs' (e:zbB L (zr x p L) rs cs rw_=some (rs',cs'))=>(zfT ab.out S.out e).1);have cTc:=aU wE hxE;have k9:=b9E.cell;have HTatE:=za (show TabAt wE R nr C nc rs cs from ⟨_,_,_,_,dY oRE,dY oCE⟩);go_upto_region 24 with (first
         |(go_at_call 64;refine (bk.out _ _ _ _ _ _ rs cs rw_ _ hxE HTatE.out ab.out Q O S.out (oH bs.out)).mono ?_;intro e wF hret;obtain⟨hxF,nr2,nc2,R2,cr2,C2,cc2,rfl,hcr2,hcc2,hT2⟩:=hret.fill (w0:=w2) hxE.size;clear hret))
        exact yF12a1
    ·rw [hub] at E Hj;clear hub;have hrunL:=za (show chT x y z p L (12 - (j+1)) (j+1) (zbB L (zr x p L) rs cs (zbc uw L))=H by
      have:=i.out;rw [Hj.out] at this;exact this)
     clear i;refine uR (fun X=>Ext wC X) [5] (zv.of [0,1,2,3,4,5,6,7,8,9,10]) ?_;refine uQ ?_;refine zb fun K hK=>?_;go_simp;refine E.out.mono (mQ fun wD U=>?_);have I:=ak.drew.trans U;clear U;refine hK.out _ _ ?_;refine pT ?_;refine uQ ?_;refine ze ?_;have ar:=za (zaG (s:=uw) (a:=L) (w:=wD) aB.out oM);generalize zbc uw L=rw_ at *;go_upto_region 23 with (first
      |(go_at_call 60;refine ar.out.mono (mQ fun wE an=>?_)))
     have l:=I.trans an;have hxE:=D.trans l;have b9E:=ay.ext l;have oRE:=zg aG l;have oCE:=zg aF l;clear ak aS bg be I an ay aG aF F E ar aV l;have hokL:=za (zdo.learn ab.out rw_);have hmore:=za (fun rs' cs' (e:zbB L (zr x p L) rs cs rw_=some (rs',cs'))=>(zfT ab.out S.out e).1);have cTc:=aU wE hxE;have k9:=b9E.cell;have HTatE:=za (show TabAt wE R nr C nc rs cs from ⟨_,_,_,_,dY oRE,dY oCE⟩);go_upto_region 24 with (first
      |(go_at_call 64;refine (bk.out _ _ _ _ _ _ rs cs rw_ _ hxE HTatE.out ab.out Q O S.out (oH b6.out)).mono ?_;intro e wF hret;obtain⟨hxF,nr2,nc2,R2,cr2,C2,cc2,rfl,hcr2,hcc2,hT2⟩:=hret.fill (w0:=w2) hxE.size;clear hret))
     exact yF12a1
end
end Go.Proofs.YtckbjnndaaoddaaGreatDoor
