/- Plain: assum -/
import Derived.Test.YtmjaepibdpfblaaGreatDoorK10
import Derived.Test.YtmjaepibdpfblaaGreatDoorK09
import Derived.Test.YtmjaepibdpfblaaGreatDoorK07
import Derived.Test.YtmjaepibdpfblaaGreatDoorK02
import Derived.Test.YtmjaepibdpfblaaGreatDoorK01
import Derived.Test.YtmjaepibdpfblaaGreatDoorK03
namespace Go.Proofs.YtmjaepibdpfblaaGreatDoor
open Go Go.RowKit
set_option maxHeartbeats 4000000
set_option maxRecDepth 100000
theorem goes_filter {s:Sys} {f:Nat→Bool}:∀ (n:Nat) (v:List Nat),v.length=n→(∀ l∈v,s.al.toNat.testBit l=true→f l=true)→∀ q,zcA (cho s) [0] (v.filter f) q↔zcA (cho s) [0] v q:=by
 intro n
 induction n with
 |zero =>
  intro v hl _ q
  obtain rfl:=List.eq_nil_of_length_eq_zero hl
  exact Iff.rfl
 |succ n ih =>
  intro v hl h q
  rcases zaA v with rfl|⟨u,l,rfl⟩
  ·simp at hl
  have ih:=ih u (by simpa using hl) (fun k hk=>h k (by simp [hk]))
  rw [List.filter_append]
  cases hf:f l
  ·have hb:s.al.toNat.testBit l=false:=by
    rw [Bool.eq_false_iff]
    intro hb
    have:=h l (by simp) hb
    rw [hf] at this;cases this
   rw [show List.filter f [l]=[] by simp [hf],List.append_nil,ih]
   constructor
   ·intro h1
    exact .snoc h1 (by unfold cho;rw [hb];simp)
   ·intro h1
    obtain⟨m,h2,h3⟩:=h1.inv
    unfold cho at h3
    rw [hb] at h3
    simp at h3
    rw [h3]
    exact h2
  ·rw [show List.filter f [l]=[l] by simp [hf]]
   constructor
   ·intro h1
    obtain⟨m,h2,h3⟩:=h1.inv
    exact .snoc ((ih m).1 h2) h3
   ·intro h1
    obtain⟨m,h2,h3⟩:=h1.inv
    exact .snoc ((ih m).2 h2) h3
theorem runs_filter {s:Sys} {f:Nat→Bool} {v:List Nat}(h:∀ l∈v,s.al.toNat.testBit l=true→f l=true):Runs s (v.filter f)↔Runs s v:=exists_congr fun q=>goes_filter _ v rfl h q
def Over (A:Nat) (v:List Nat):Prop:=∀ l∈v,l<6∧A.testBit l=true
theorem runB_goes {s:Sys} {p:Nat}(hf:Few p s.edges)(hp:p≤16):∀ (n:Nat) (v:List Nat),v.length=n→(∀ l∈v,s.al.toNat.testBit l=true)→∀ q,(zfP s.edges 1 v).testBit q=true↔zcA (cho s) [0] v q:=by
 intro n
 induction n with
 |zero =>
  intro v hl _ q
  obtain rfl:=List.eq_nil_of_length_eq_zero hl
  constructor
  ·intro h
   refine .nil ?_
   cases q with
   |zero=>simp
   |succ q =>
    exfalso
    have h1:(1:Nat).testBit (q+1)=true:=h
    rw [Nat.testBit_succ] at h1
    simp at h1
  ·intro h
   have:=h.inv_nil
   simp at this
   subst this
   show (1:Nat).testBit 0=true
   decide
 |succ n ih =>
  intro v hl h q
  rcases zaA v with rfl|⟨u,l,rfl⟩
  ·simp at hl
  have ih:=ih u (by simpa using hl) (fun k hk=>h k (by simp [hk]))
  rw [zfe,zdb]
  have hb:=h l (by simp)
  constructor
  ·rintro ⟨e,he,⟨h1,h2⟩,rfl⟩
   have hfe:=hf e he
   refine .snoc ((ih _).1 h2) ?_
   unfold cho
   rw [if_pos hb]
   refine zF.2 ⟨by omega,(zdu _ _ _ _).2 ⟨e,he,⟨by omega,h1⟩,rfl⟩⟩
  ·intro h1
   obtain⟨m,h2,h3⟩:=h1.inv
   unfold cho at h3
   rw [if_pos hb] at h3
   obtain⟨e,he,⟨h4,h5⟩,h6⟩:=(zdu _ _ _ _).1 (zF.1 h3).2
   exact⟨e,he,⟨h5,by rw [h4];simpa using (ih m).2 h2⟩,h6⟩
theorem bits_some {x:Nat}:(x != 0)=true↔∃ q,x.testBit q=true:=by
 rw [bne_iff_ne]
 constructor
 ·intro h
  apply Classical.byContradiction
  intro hn
  refine h (Nat.eq_of_testBit_eq fun q=>?_)
  rw [Nat.zero_testBit,Bool.eq_false_iff]
  exact fun hq=>hn ⟨q,hq⟩
 ·rintro ⟨q,hq⟩ rfl
  rw [Nat.zero_testBit] at hq;cases hq
theorem aft_runs {s:Sys} {x:ByteArray}(hv:zl s=true)(hw:zaV x=true):(zeb s (zbd x s.al.toNat) != 0)=true↔Runs s (wl x):=by
 obtain⟨p,_,_,hp2,hf⟩:=zbP hv
 unfold zeb
 rw [hv,zfd hw,Bool.and_self,if_pos rfl,wl_restB hw,bits_some]
 refine Iff.trans ?_ (runs_filter (f:=fun l=>s.al.toNat.testBit l) (fun l _ h=>h))
 exact exists_congr fun q=>runB_goes hf hp2 _ _ rfl (fun l hl=>by simpa using (List.mem_filter.1 hl).2) q
theorem top_iff {ss:List Sys} {x:ByteArray}:zgI ss x=true↔zE ss=true∧zaV x=true∧Over (zS ss) (wl x)∧∀ s∈ss,Runs s (wl x):=by
 unfold zgI
 simp only [Bool.and_eq_true,List.all_eq_true]
 constructor
 ·rintro ⟨h1,h2,h3⟩
  have hw:=zaN h2
  refine⟨h1,hw,fun l hl=>⟨zik hw l hl,?_⟩,fun s hs=>(aft_runs ((zbi h1).2 s hs) hw).1 (h3 s hs)⟩
  have h4:=(inB_iff.1 h2).2
  have h5:=(zgi (wl x) l).2 hl
  rw [← h4,Nat.testBit_and,Bool.and_eq_true] at h5
  exact h5.2
 ·rintro ⟨h1,h2,h3,h4⟩
  refine⟨h1,inB_iff.2 ⟨h2,Nat.eq_of_testBit_eq fun k=>?_⟩,fun s hs=>(aft_runs ((zbi h1).2 s hs) h2).2 (h4 s hs)⟩
  rw [Nat.testBit_and]
  cases hk:(alB (wl x)).testBit k
  ·rfl
  ·rw [(h3 k ((zgi _ k).1 hk)).2];rfl
theorem iface_nat {s t:Sys} {p:Aut}(hs:zl s=true)(hp:zi p=true)(ht:zl t=true):iface s p t=(((s.al.toNat|||p.al.toNat)&&&t.al.toNat:Nat):Int):=by
 unfold iface
 rw [hs,hp,ht];rfl
theorem zeV {s t:Sys} {p:Aut}(h:0≤iface s p t):zl s=true∧zi p=true∧zl t=true:=by
 have h1:¬ iface s p t<0:=by omega
 rw [zcR] at h1
 simpa using h1
def RetSt (N:Nat) (Q:Nat→Nat→Prop) (w:World) (e:Ending) (w':World):Prop:=
 ∃ (T:List Nat) (g c:Nat),e=.returned (.slice (some ⟨g,0,none⟩) N c)∧w'.ownsRow w.heap.size 3 1 (.slice (some ⟨g,0,none⟩) N c) N (zaq T)∧zez T N Q∧Ext w w'
def mset (s:Sys) (x l:Nat):Nat:=if s.al.toNat.testBit l then zbE s.edges x (l:Int) else x
theorem mset_bit {s:Sys}(hs:Sml s) (x l q':Nat):(mset s x l).testBit q'=true↔∃ q,x.testBit q=true∧q'∈cho s q l:=by
 unfold mset
 split
 ·rename_i h
  exact zie hs h x q'
 ·rename_i h
  constructor
  ·intro h1;exact⟨q',h1,by unfold cho;rw [if_neg h];simp⟩
  ·rintro ⟨q,h1,h2⟩
   unfold cho at h2
   rw [if_neg h] at h2
   simp at h2
   rw [h2];exact h1
theorem mset_lt {s:Sys}(hs:Sml s) {x:Nat}(hx:x<65536) (l:Nat):mset s x l<65536:=by
 unfold mset
 split
 ·exact zhs hs _ _
 ·exact hx
structure MvI (s:Sys) (p:Aut) (l N:Nat) (T:List Nat) (k:Nat) (O:List Nat):Prop where
 len:O.length=N
 lt:∀ x∈O,x<65536
 bit:∀ j q',bitS O j q'↔∃ i q,i<k∧bitS T i q∧q'∈cho s q l∧j=aGo p i l
theorem MvI.step {s:Sys} {p:Aut} {l N k:Nat} {T O:List Nat}(h:MvI s p l N T k O)(hs:Sml s)(hp:zi p=true)(hN:N=p.next.length)(hT:∀ x∈T,x<65536)(hk:k<N)(hl:l<6) :
  MvI s p l N T (k+1) (O.set (aGo p k l) (O.getD (aGo p k l) 0|||mset s (T.getD k 0) l)):=by
 have hj:aGo p k l<O.length:=by rw [h.len,hN];exact zdC hp (by omega) hl
 refine⟨by rw [List.length_set];exact h.len,fun x hx=>?_,fun j q'=>?_⟩
 ·rcases List.mem_or_eq_of_mem_set hx with hx|rfl
  ·exact h.lt x hx
  ·exact Nat.or_lt_two_pow (n:=16) (zeD h.lt _) (mset_lt hs (zeD hT _) _)
 ·rw [zhy hj,h.bit,mset_bit hs]
  constructor
  ·rintro (⟨i,q,h1,h2,h3,h4⟩|⟨h1,q,h2,h3⟩)
   ·exact⟨i,q,by omega,h2,h3,h4⟩
   ·exact⟨k,q,by omega,h2,h3,h1⟩
  ·rintro ⟨i,q,h1,h2,h3,h4⟩
   rcases Nat.lt_or_eq_of_le (Nat.le_of_lt_succ h1) with h5|rfl
   ·exact .inl ⟨i,q,h5,h2,h3,h4⟩
   ·exact .inr ⟨h4,q,h2,h3⟩
theorem MvI.zero (s:Sys) (p:Aut) (l N:Nat) (T:List Nat):MvI s p l N T 0 (List.replicate N 0):=by
 refine⟨by simp,fun x hx=>by rw [List.mem_replicate] at hx;omega,fun j q'=>?_⟩
 constructor
 ·intro h
  unfold bitS at h
  rw [List.getD_eq_getElem?_getD] at h
  cases h1:(List.replicate N 0)[j]? with
  |none=>rw [h1] at h;simp at h
  |some x =>
   have:=List.mem_of_getElem? h1
   rw [List.mem_replicate] at this
   rw [h1,this.2] at h
   simp at h
 ·rintro ⟨_,_,h,_⟩;omega
theorem MvI.fin {s:Sys} {p:Aut} {l N:Nat} {T O:List Nat} {B:Nat→Nat→Prop}(h:MvI s p l N T N O)(hT:zez T N B):zez O N (mvB s p l B):=by
 refine⟨h.len,h.lt,fun j q'=>?_⟩
 rw [h.bit]
 constructor
 ·rintro ⟨i,q,h1,h2,h3,h4⟩
  exact⟨q,i,(hT.2.2 i q).1 h2,h3,h4⟩
 ·rintro ⟨q,i,h2,h3,h4⟩
  have hb:=(hT.2.2 i q).2 h2
  exact⟨i,q,by rw [← hT.1];exact bitS_lt hb,hb,h3,h4⟩
def badT (p:Aut) (T:List Nat) (N:Nat):Bool:=(List.range N).any fun i=>T.getD i 0 != 0&&!zbr p i
theorem zhw {p:Aut} {T:List Nat} {N:Nat}:badT p T N=true↔∃ i,i<N∧T.getD i 0≠0∧zbr p i=false:=by
 unfold badT
 rw [List.any_eq_true]
 constructor
 ·rintro ⟨i,h1,h2⟩
  rw [List.mem_range] at h1
  simp only [Bool.and_eq_true,bne_iff_ne,Bool.not_eq_true'] at h2
  exact⟨i,h1,h2.1,h2.2⟩
 ·rintro ⟨i,h1,h2,h3⟩
  exact⟨i,List.mem_range.2 h1,by simp [h3];simpa using h2⟩
section
variable {w:World} {lo hi n c m d m' d' L:Nat} {A B B':Option Addr} {s:Sys} {p:Aut}
theorem spec_l9Start {N:Nat}(hS:zN w lo hi A n s)(hP:zG w lo hi B m B' m' p)(hv:zl s=true)(hp:zi p=true)(hL:L<64)(hhi:hi≤w.heap.size)(hN:N=p.next.length) :
  Calls Tryz.prog 148 #[.agg #[.int .i64 s.al,.int .i64 s.st,.slice A n c,.int .i64 p.al,.slice B m d,.slice B' m' d',.int .i64 L]] w (RetSt N (PR s p L []) w):=by
 have hm:m=N:=hP.n1.trans hN.symm
 subst hm
 have hN12:1≤m∧m≤12:=by have:=(zj hp).2.1;omega
 have HS:=za (fun W (hW:Ext w W)=>hS.ext hW)
 have HP:=za (fun W (hW:Ext w W)=>hP.ext hW)
 have HN:=za hN
 have hw1:Ext w (w.alloc (.cells #[.int .i64 s.al,.int .i64 s.st,.slice A n c,.int .i64 p.al,.slice B m d,.slice B' m' d',.int .i64 L] 97)):=(Ext.refl _).alloc _
 have b1:=Blk.new w 97 #[.int .i64 s.al,.int .i64 s.st,.slice A n c,.int .i64 p.al,.slice B m d,.slice B' m' d',.int .i64 L]
 have hb1:=b1.lt
 clear hS hP hN
 go_enter Tryz.func148,Tryz.ntmps148
 go_upto_region 1 with fail
 generalize w.alloc (.cells #[.int .i64 s.al,.int .i64 s.st,.slice A n c,.int .i64 p.al,.slice B m d,.slice B' m' d',.int .i64 L] 97)=w1 at *
 have k1:=b1.cell
 go_upto_region 2 with (at_make;refine zbX w1 w1 rfl _ _ 137 rfl 3 _ 1 8 Tryz.underlying137 zY _ _ m rfl rfl (Ext.refl _) (by omega) (by unfold maxLen;omega) ?_;intro w2 hx2 ziw hx23 hsz2)
 rw [madeZ] at ziw
 have hst:=(ziw.stored 0 (.int .i64 1)).1
 rw [show (zaq (List.replicate m 0)).set 0 (.int .i64 1)=zaq ((List.replicate m 0).set 0 1) from (zgb (i:=0) (v:=1) (R:=List.replicate m 0)).symm] at hst
 have hfz:=ziw.frozenAt 0
 have hc0:=zcu ziw (show 0<m by omega)
 have hw3:=(hw1.trans hx2).setCell (p:=⟨w1.heap.size,0,none⟩) hw1.size (.int .i64 1)
 have hb2:=(b1.ext hx2).far (p:=⟨w1.heap.size,0,none⟩) (by dsimp only;omega) (.int .i64 1)
 have h0m:(0:Int)<(m:Int):=by omega
 clear k1
 have k1:=hb2.cell
 have hH:=za (fun T' (hT':zez T' m (fun q i=>q=0∧i=0))=>hT')
 have hS3:=HS.out _ hw3
 have hP3:=HP.out _ hw3
 have hT0:=stand_start hN12.1
 have hsz:=hw1.size
 clear hx23
 go_wp2_with fail
 refine (zfG (c:=c) (d:=d) (d':=d') hS3 hP3 hv hp hL HN.out (by omega) hst hT0).mono ?_
 rintro e w4 ⟨T',rfl,hown4,hT4,hfr4⟩
 go_wp2_with fail
 go_ret
 exact⟨T',w1.heap.size,m,rfl,zn hown4 hw1.size,hT4,hw3.frm hfr4 (fun k hk e=>by omega)⟩
theorem spec_l9Move {N l g0 b0 c0:Nat} {T:List Nat} {Q:Nat→Nat→Prop}(hS:zN w lo hi A n s)(hP:zG w lo hi B m B' m' p)(hv:zl s=true)(hp:zi p=true)(hL:L<64)(hhi:hi≤w.heap.size)(hN:N=p.next.length)(hl:l<6)
  (zil:w.ownsRow b0 3 1 (.slice (some ⟨g0,0,none⟩) N c0) N (zaq T)) (hT:zez T N Q) :
  Calls Tryz.prog 150 #[.agg #[.int .i64 s.al,.int .i64 s.st,.slice A n c,.int .i64 p.al,.slice B m d,.slice B' m' d',.int .i64 L],.slice (some ⟨g0,0,none⟩) N c0,.int .i64 l] w (RetSt N (Cl s p L (mvB s p l Q)) w):=by
 have hsm:=zcX hv
 obtain⟨ha0,ha1⟩:=zP hv
 obtain⟨al,hal⟩:∃ al:Nat,Hid (s.al=al):=⟨s.al.toNat,by unfold Hid;omega⟩
 have hal64:al<64:=by have:=hal.out;omega
 have hto:=za (show s.al.toNat=al by have:=hal.out;omega)
 have hN12:1≤N∧N≤12:=by have:=(zj hp).2.1;omega
 have HS:=za (fun W (hW:Ext w W)=>hS.ext hW)
 have HP:=za (fun W (hW:Ext w W)=>hP.ext hW)
 have HN:=za hN
 have HT:=za hT
 have hgw:=(zil.lt g0 rfl).2
 have hw1:Ext w (w.alloc (.cells #[.int .i64 s.al,.int .i64 s.st,.slice A n c,.int .i64 p.al,.slice B m d,.slice B' m' d',.int .i64 L] 97)):=(Ext.refl _).alloc _
 have b1:=Blk.new w 97 #[.int .i64 s.al,.int .i64 s.st,.slice A n c,.int .i64 p.al,.slice B m d,.slice B' m' d',.int .i64 L]
 have hb1:=b1.lt
 clear hS hP hN hT
 go_enter Tryz.func150,Tryz.ntmps150
 go_upto_region 1 with fail
 generalize w.alloc (.cells #[.int .i64 s.al,.int .i64 s.st,.slice A n c,.int .i64 p.al,.slice B m d,.slice B' m' d',.int .i64 L] 97)=w1 at *
 go_wp2_with (at_make;refine zbX w1 w1 rfl _ _ 137 rfl 3 _ 1 8 Tryz.underlying137 zY _ _ N rfl rfl (Ext.refl _) (by omega) (by unfold maxLen;omega) ?_;intro w2 hx2 ziw hx23 hsz2)
 rw [madeZ] at ziw
 have hsz1:=hw1.size
 have hw2:=hw1.trans hx2
 clear hx23
 obtain⟨gO,hgO⟩:∃ gO,gO=w1.heap.size:=⟨_,rfl⟩
 rw [← hgO] at ziw ⊢
 have hOw:w.heap.size<gO:=by omega
 clear hgO
 go_loopw [8] (fun iv wr=>∃ (i:Nat) (O:List Nat),iv=.int .i64 i∧i≤N∧Hid (MvI s p l N T i O)∧wr.ownsRow gO 3 1 (.slice (some ⟨gO,0,none⟩) N N) N (zaq O)∧Frm (fun k=>k=gO) w2 wr) (fun iv _=>N - (intOf iv).toNat)
 case atStart=>exact⟨0,_,rfl,Nat.zero_le _,za (MvI.zero s p l N T),ziw,Frm.refl _ _⟩
 case round =>
  clear ziw
  obtain⟨i,O,rfl,hi,hO,hownO,hfr⟩:=hrel
  have hxr:Ext w wr:=hw2.frm hfr (fun k hk e=>by omega)
  have k1:=((b1.ext hx2).frm hfr (by omega)).cell
  by_cases hlt:i<N
  ·have hlt':(i:Int)<(N:Int):=by omega
   have cI:=zcu (zh zil hxr) hlt
   obtain⟨x,hx⟩:∃ x,Hid (T.getD i 0=x):=⟨_,rfl⟩
   have hx16:x<65536:=by rw [← hx.out];exact zeD HT.out.2.1 i
   rw [hx.out] at cI
   have CB:∀ W,Ext wr W→∀ q,W.cell? ⟨w.heap.size,q,none⟩=#[Value.int .i64 al,.int .i64 s.st,.slice A n c,.int .i64 p.al,.slice B m d,.slice B' m' d',.int .i64 L][q]?:=fun W hW q=>by rw [(((b1.ext hx2).frm hfr (by omega)).ext hW).cell,hal.out]
   have CI:∀ W,Ext wr W→W.cell? ⟨g0,i,none⟩=some (.int .i64 (x:Nat)):=fun W hW=>hW.cell_some cI
   obtain⟨j,hj⟩:∃ j,Hid (aGo p i l=j):=⟨_,rfl⟩
   have hjN:j<N:=by rw [← hj.out,HN.out];exact zdC hp (by rw [← HN.out];exact hlt) hl
   have hjN':(j:Int)<(N:Int):=by omega
   obtain⟨v,hv0⟩:∃ v,Hid (O.getD j 0=v):=⟨_,rfl⟩
   obtain⟨y,hy⟩:∃ y,Hid (mset s x l=y):=⟨_,rfl⟩
   obtain⟨u,hu⟩:∃ u,Hid (v|||y=u):=⟨_,rfl⟩
   have hv16:v<65536:=by rw [← hv0.out];exact zeD hO.out.lt j
   have hy16:y<65536:=by rw [← hy.out];exact mset_lt hsm hx16 l
   have hor:=zbG (a:=v) (b:=y) (by unfold Sm;omega) (by unfold Sm;omega)
   rw [hu.out] at hor
   have CJ:∀ W,Ext wr W→W.cell? ⟨gO,j,none⟩=some (.int .i64 (v:Nat)):=fun W hW=>hW.cell_some (hv0.out ▸ zcu hownO hjN)
   have FJ:∀ W,Ext wr W→W.frozen? ⟨gO,j,none⟩=false:=fun W hW=>(zh hownO hW).frozenAt j
   have hstep:=hO.out.step hsm hp HN.out HT.out.2.1 hlt hl
   rw [hj.out,hv0.out,hx.out,hy.out,hu.out] at hstep
   have Hstep:=za hstep
   have Hst:=za (fun W (hW:Ext wr W)=>((zh hownO hW).stored j (.int .i64 (u:Nat))).1)
   have hww:=Ext.refl wr
   clear hstep k1 cI
   cases hb:al.testBit l
   ·have Hb:=za hb
    have hyx:x=y:=by rw [← hy.out];unfold mset;rw [hto.out,hb];rfl
    subst hyx
    clear hb
    go_wp2_with (first
     |(go_at_call 144;refine (zat al l (by unfold Sm;omega) _ (by omega)).mono ?_;rw [Hb.out];rintro e w' ⟨rfl,rfl⟩)
     |(go_at_call 230;refine (zda (HP.out _ hxr) hp (by rw [← HN.out];exact hlt) hl).mono ?_;rw [hj.out];rintro e w4 ⟨rfl,hx4⟩))
    have hst:=Hst.out w4 hx4
    rw [← zgb] at hst
    go_roundw
    case rel=>exact⟨i+1,O.set j u,by go_num,by omega,Hstep,hst,(hfr.ext hx4).trans (Frm.setCell _ gO j _)⟩
    case measure=>simp [intOf];omega
   ·have Hb:=za hb
    have hyx:Hid (zbE s.edges x (l:Int)=y):=by unfold Hid;rw [← hy.out];unfold mset;rw [hto.out,hb];rfl
    clear hb
    go_wp2_with (first
     |(go_at_call 144;refine (zat al l (by unfold Sm;omega) _ (by omega)).mono ?_;rw [Hb.out];rintro e w' ⟨rfl,rfl⟩)
     |(go_at_call 229;rw [← hal.out];refine (zeP (c:=c) (k0:=s.st.toNat) (HS.out _ hxr) hsm.2.2.1 (by have:=hsm.2.1;omega) (by unfold Sm;omega)).mono ?_;rw [hyx.out];rintro e w3 ⟨rfl,hx3⟩;have hxr3:=hxr.trans hx3)
     |(go_at_call 230;refine (zda (HP.out _ hxr3) hp (by rw [← HN.out];exact hlt) hl).mono ?_;rw [hj.out];rintro e w4 ⟨rfl,hx4⟩;have hx34:=hx3.trans hx4))
    have hst:=Hst.out w4 hx34
    rw [← zgb] at hst
    go_roundw
    case rel=>exact⟨i+1,O.set j u,by go_num,by omega,Hstep,hst,(hfr.ext hx34).trans (Frm.setCell _ gO j _)⟩
    case measure=>simp [intOf];omega
  ·obtain rfl:i=N:=by omega
   have zio:=hO.out.fin HT.out
   go_wp2_with fail
   refine (zfG (c:=c) (d:=d) (d':=d') (HS.out _ hxr) (HP.out _ hxr) hv hp hL HN.out (by omega) hownO zio).mono ?_
   rintro e w4 ⟨T',rfl,hown4,hT4,hfr4⟩
   go_wp2_with fail
   go_ret
   exact⟨T',gO,i,rfl,zn hown4 (by omega),hT4,hxr.frm hfr4 (fun k hk e=>by omega)⟩
end
noncomputable def zy (s:Sys) (p:Aut) (L:Nat) (t:ByteArray):Bool:=by
 classical exact inB t L&&decide (SafeW s p L (wl t))
theorem zgw {s:Sys} {p:Aut} {L:Nat} {t:ByteArray}:zy s p L t=true↔inB t L=true∧SafeW s p L (wl t):=by
 unfold zy
 simp
section
variable {w:World} {lo hi n c m d m' d' L:Nat} {A B B':Option Addr} {s:Sys} {p:Aut}
theorem spec_l9Bad {N g0 b0 c0:Nat} {T:List Nat}(hP:zG w lo hi B m B' m' p)(hp:zi p=true)(hN:N=p.next.length)
  (zil:w.ownsRow b0 3 1 (.slice (some ⟨g0,0,none⟩) N c0) N (zaq T)) :
  Calls Tryz.prog 149 #[.agg #[.int .i64 s.al,.int .i64 s.st,.slice A n c,.int .i64 p.al,.slice B m d,.slice B' m' d',.int .i64 L],.slice (some ⟨g0,0,none⟩) N c0] w fun e w'=>e=.returned (.bool (badT p T N))∧Ext w w':=by
 have hN12:1≤N∧N≤12:=by have:=(zj hp).2.1;omega
 have hm':m'=N:=by rw [hP.n2,(zj hp).2.2.1,hN]
 have HB:=za (fun W (hW:Ext w W) q hq=>zcN (q:=q) (hP.ext hW) hq)
 have hw1:Ext w (w.alloc (.cells #[.int .i64 s.al,.int .i64 s.st,.slice A n c,.int .i64 p.al,.slice B m d,.slice B' m' d',.int .i64 L] 97)):=(Ext.refl _).alloc _
 have b1:=Blk.new w 97 #[.int .i64 s.al,.int .i64 s.st,.slice A n c,.int .i64 p.al,.slice B m d,.slice B' m' d',.int .i64 L]
 subst hm'
 clear hP hN
 go_enter Tryz.func149,Tryz.ntmps149
 go_upto_region 1 with fail
 generalize w.alloc (.cells #[.int .i64 s.al,.int .i64 s.st,.slice A n c,.int .i64 p.al,.slice B m d,.slice B' m' d',.int .i64 L] 97)=w1 at *
 have k1:=b1.cell
 go_wp2_with fail
 go_loop [5] (fun iv=>∃ i:Nat,iv=.int .i64 i∧i≤m'∧Hid (∀ j,j<i→T.getD j 0=0∨zbr p j=true)) (fun iv=>m' - (intOf iv).toNat)
 case atStart=>exact⟨0,rfl,Nat.zero_le _,za (fun j h=>by omega)⟩
 case round =>
  obtain⟨i,rfl,hi,hdone⟩:=hrel
  by_cases hlt:i<m'
  ·have hlt':(i:Int)<(m':Int):=by omega
   obtain⟨ad,rfl,cA⟩:=HB.out w1 hw1 i hlt
   have cI:=zcu (zh zil hw1) hlt
   obtain⟨x,hx⟩:∃ x,Hid (T.getD i 0=x):=⟨_,rfl⟩
   rw [hx.out] at cI
   by_cases h0:x=0
   ·subst h0
    go_wp2_with fail
    go_round
    case rel=>exact⟨i+1,by go_num,by omega,za (fun j hj=>by
     rcases Nat.lt_or_eq_of_le (Nat.le_of_lt_succ hj) with h1|rfl
     ·exact hdone.out j h1
     ·exact .inl hx.out)⟩
    case measure=>simp [intOf];omega
   ·have hne:((x:Int) != 0)=true:=by simp;omega
    cases zim:zbr p i
    ·have hb:=za (show badT p T m'=true from zhw.2 ⟨i,hlt,by rw [hx.out];exact h0,zim⟩)
     rw [zim] at cA
     clear zim h0
     go_wp2_with fail
     go_ret
     exact⟨zk (by rw [hb.out]),hw1⟩
    ·have Hacc:=za zim
     rw [zim] at cA
     clear zim h0
     go_wp2_with fail
     go_round
     case rel=>exact⟨i+1,by go_num,by omega,za (fun j hj=>by
      rcases Nat.lt_or_eq_of_le (Nat.le_of_lt_succ hj) with h1|rfl
      ·exact hdone.out j h1
      ·exact .inr Hacc.out)⟩
     case measure=>simp [intOf];omega
  ·obtain rfl:i=m':=by omega
   have hb:=za (show badT p T i=false by
    rw [Bool.eq_false_iff]
    intro h
    obtain⟨j,h1,h2,h3⟩:=zhw.1 h
    rcases hdone.out j h1 with h4|h4
    ·exact h2 h4
    ·rw [h3] at h4;cases h4)
   go_wp2_with fail
   go_ret
   exact⟨zk (by rw [hb.out]),hw1⟩
theorem zeq (hS:zN w lo hi A n s)(hP:zG w lo hi B m B' m' p)(hv:zl s=true)(hp:zi p=true)(hL:L<64) :
  Calls Tryz.prog 146 #[.agg #[.int .i64 s.al,.int .i64 s.st,.slice A n c,.int .i64 p.al,.slice B m d,.slice B' m' d',.int .i64 L]] w fun e w'=>e=.returned (.bool true)∧Ext w w':=by
 have HS:=za (fun W (hW:Ext w W)=>zai (c:=c) (hS.ext hW))
 have HP:=za (fun W (hW:Ext w W)=>zJ _ _ _ _ d _ _ d' _ _ (hP.ext hW))
 rw [hv] at HS
 rw [hp] at HP
 have hal:=za (show (decide ((0:Int)≤L∧(L:Int)≤63))=true by simp;omega)
 have hw1:Ext w (w.alloc (.cells #[.int .i64 s.al,.int .i64 s.st,.slice A n c,.int .i64 p.al,.slice B m d,.slice B' m' d',.int .i64 L] 97)):=(Ext.refl _).alloc _
 have b1:=Blk.new w 97 #[.int .i64 s.al,.int .i64 s.st,.slice A n c,.int .i64 p.al,.slice B m d,.slice B' m' d',.int .i64 L]
 clear hS hP hv hp
 go_enter Tryz.func146,Tryz.ntmps146
 go_upto_region 1 with fail
 generalize w.alloc (.cells #[.int .i64 s.al,.int .i64 s.st,.slice A n c,.int .i64 p.al,.slice B m d,.slice B' m' d',.int .i64 L] 97)=w1 at *
 have CB:=b1.cells
 have hww:=Ext.refl w1
 go_wp2_with (first
  |(go_at_call 185;refine (HS.out _ hw1).mono ?_;rintro e w2 ⟨rfl,hx2⟩)
  |(go_at_call 186;refine (HP.out _ (hw1.trans hx2)).mono ?_;rintro e w3 ⟨rfl,hx3⟩;have hx23:=hx2.trans hx3)
  |(go_at_call 143;refine (zR _ _).mono ?_;rw [hal.out];rintro e w4 ⟨rfl,rfl⟩))
 go_ret
 exact⟨rfl,hw1.trans hx23⟩
theorem zhx {N k:Nat} {T v:List Nat}(h:zez T N (PR s p L (v.take k))):badT p T N=true↔Bad s p L (v.take k):=zhw.trans (stand_bad h).symm
theorem zfh {t:ByteArray}(hS:zN w lo hi A n s)(hP:zG w lo hi B m B' m' p)(hv:zl s=true)(hp:zi p=true)(hL:L<64)(hhi:hi≤w.heap.size)(ht:t.size≤9223372036854775807) :
  Calls Tryz.prog 77 #[.agg #[.int .i64 s.al,.int .i64 s.st,.slice A n c,.int .i64 p.al,.slice B m d,.slice B' m' d',.int .i64 L],.string t] w fun e w'=>e=.returned (.bool (zy s p L t))∧Ext w w':=by
 obtain⟨N,hN⟩:∃ N,Hid (N=p.next.length):=⟨_,rfl⟩
 have HV:=za (fun W (hW:Ext w W)=>zeq (c:=c) (d:=d) (d':=d') (L:=L) (hS.ext hW) (hP.ext hW) hv hp hL)
 have HSt:=za (fun W (hW:Ext w W)=>spec_l9Start (c:=c) (d:=d) (d':=d') (L:=L) (N:=N) (hS.ext hW) (hP.ext hW) hv hp hL (Nat.le_trans hhi hW.size) hN.out)
 have HB:=za (fun (g0 b0 c0:Nat) (T:List Nat) W (hW:Ext w W) (ho:W.ownsRow b0 3 1 (.slice (some ⟨g0,0,none⟩) N c0) N (zaq T))=>spec_l9Bad (A:=A) (n:=n) (c:=c) (d:=d) (d':=d') (L:=L) (s:=s) (hP.ext hW) hp hN.out ho)
 have HM:=za (fun (l g0 b0 c0:Nat) (T:List Nat) (Q:Nat→Nat→Prop) W (hW:Ext w W) (hl:l<6) (ho:W.ownsRow b0 3 1 (.slice (some ⟨g0,0,none⟩) N c0) N (zaq T)) (hT:zez T N Q)=>spec_l9Move (c:=c) (d:=d) (d':=d') (L:=L) (hS.ext hW) (hP.ext hW) hv hp hL (Nat.le_trans hhi hW.size) hN.out hl ho hT)
 have hw1:Ext w (w.alloc (.cells #[.int .i64 s.al,.int .i64 s.st,.slice A n c,.int .i64 p.al,.slice B m d,.slice B' m' d',.int .i64 L] 97)):=(Ext.refl _).alloc _
 have b1:=Blk.new w 97 #[.int .i64 s.al,.int .i64 s.st,.slice A n c,.int .i64 p.al,.slice B m d,.slice B' m' d',.int .i64 L]
 clear hS hP
 cases hin:inB t L
 ·have Hin:=za hin
  have zio:=za (show zy s p L t=false by rw [Bool.eq_false_iff];intro h;have:=(zgw.1 h).1;rw [hin] at this;cases this)
  clear hin
  go_enter Tryz.func77,Tryz.ntmps77
  go_upto_region 1 with fail
  generalize w.alloc (.cells #[.int .i64 s.al,.int .i64 s.st,.slice A n c,.int .i64 p.al,.slice B m d,.slice B' m' d',.int .i64 L] 97)=w1 at *
  have CB:=b1.cells
  have hww:=Ext.refl w1
  go_wp2_with (first
   |(go_at_call 146;refine (HV.out _ hw1).mono ?_;rintro e w2 ⟨rfl,hx2⟩)
   |(go_at_call 147;refine (zaf ht (by omega)).mono ?_;rw [Hin.out];rintro e w3 ⟨rfl,rfl⟩))
  go_ret
  exact⟨zk (by rw [zio.out]),hw1.trans hx2⟩
 ·have Hin:=za hin
  have Hb:=za (fun k hk=>zaQ (zaN hin) (k:=k) hk)
  clear hin
  go_enter Tryz.func77,Tryz.ntmps77
  go_upto_region 1 with fail
  generalize w.alloc (.cells #[.int .i64 s.al,.int .i64 s.st,.slice A n c,.int .i64 p.al,.slice B m d,.slice B' m' d',.int .i64 L] 97)=w1 at *
  have CB:=b1.cells
  have hww:=Ext.refl w1
  go_wp2_with (first
   |(go_at_call 146;refine (HV.out _ hw1).mono ?_;rintro e w2 ⟨rfl,hx2⟩)
   |(go_at_call 147;refine (zaf ht (by omega)).mono ?_;rw [Hin.out];rintro e w3 ⟨rfl,rfl⟩)
   |(go_at_call 148;refine (HSt.out _ (hw1.trans hx2)).mono ?_;rintro e w4 ⟨T,g,cc,rfl,zil,hT,hx4⟩;have hx14:=hx2.trans hx4))
  go_loopw [5,6] (fun v iv wr=>∃ (k g b0 cc:Nat) (T:List Nat),iv=.int .i64 k∧k≤t.size∧v=.slice (some ⟨g,0,none⟩) N cc∧wr.ownsRow b0 3 1 (.slice (some ⟨g,0,none⟩) N cc) N (zaq T)∧Hid (zez T N (PR s p L ((wl t).take k)))∧Hid (∀ j,j<k→¬ Bad s p L ((wl t).take j))∧Ext w1 wr) (fun _ iv _=>t.size - (intOf iv).toNat)
  case atStart=>exact⟨0,g,_,cc,T,rfl,Nat.zero_le _,rfl,zil,za (by simpa using hT),za (fun j h=>by omega),hx14⟩
  case round =>
   clear zil hT hx2 hx4 hx14
   obtain⟨k,g,b0,cc,T,rfl,hk,rfl,zil,hT,hdone,hxr⟩:=hrel
   by_cases hlt:k<t.size
   ·have hlt':(k:Int)<(t.size:Int):=by omega
    obtain⟨l,hl⟩:∃ l:Nat,Hid ((t[k].toNat:Int) - 97=l):=⟨t[k].toNat - 97,by unfold Hid;have:=Hb.out k hlt;omega⟩
    have hl6:l<6:=by have:=hl.out;have:=Hb.out k hlt;omega
    have hst:=za (show (wl t).take (k+1)=(wl t).take k++[l] by rw [List.take_add_one,zeu hlt,Option.toList_some,show t[k].toNat - 97=l by have:=hl.out;have:=Hb.out k hlt;omega])
    cases hbad:badT p T N
    ·have Hbad:=za hbad
     have hnb:=za (show ¬ Bad s p L ((wl t).take k) by rw [← zhx hT.out,hbad];decide)
     clear hbad
     go_wp2_with (first|(go_at_call 149;refine (HB.out _ _ _ _ _ (hw1.trans hxr) zil).mono ?_;rw [Hbad.out];rintro e w5 ⟨rfl,hx5⟩;have hxr5:=hxr.trans hx5))
     have HMr:=za (fun W (hW:Ext wr W)=>HM.out l g b0 cc T _ W ((hw1.trans hxr).trans hW) hl6 (zh zil hW) hT.out)
     have CBr:∀ W,Ext wr W→∀ q,W.cell? ⟨w.heap.size,q,none⟩=#[Value.int .i64 s.al,.int .i64 s.st,.slice A n c,.int .i64 p.al,.slice B m d,.slice B' m' d',.int .i64 L][q]?:=fun W hW=>CB W (hxr.trans hW)
     go_region_held3 (fun W=>Ext wr W) (first|assumption|(refine Ext.drew ?_;assumption)|(refine Ext.trans ?_ (by assumption);assumption)|(refine Ext.trans ?_ (by assumption);refine Ext.drew ?_;assumption)) (first
      |(go_at_call 145;refine (zbj t k hlt _).mono ?_;rw [hl.out];rintro e w6 ⟨rfl,rfl⟩)
      |(go_at_call 150;refine (HMr.out _ ?_).mono ?_;(first|assumption|(refine Ext.drew ?_;assumption));rintro e w7 ⟨T7,g7,c7,rfl,hown7,hT7,hx7⟩))
     have hx17:Ext w1 w7:=hxr.trans (by assumption)
     rw [← PR_snoc,← hst.out] at hT7
     have HT7:=za hT7
     clear hT7 HMr CBr
     go_wp2_with fail
     go_roundw
     case rel=>exact⟨k+1,g7,_,c7,T7,by go_num,by omega,rfl,hown7,HT7,za (fun j hj=>by
      rcases Nat.lt_or_eq_of_le (Nat.le_of_lt_succ hj) with h1|rfl
      ·exact hdone.out j h1
      ·exact hnb.out),hx17⟩
     case measure=>simp [intOf];omega
    ·have Hbad:=za hbad
     have zio:=za (show zy s p L t=false by
      rw [Bool.eq_false_iff]
      intro h
      exact (zgw.1 h).2 k (by rw [zev];omega) ((zhx hT.out).1 hbad))
     clear hbad
     go_wp2_with (first
      |(go_at_call 149;with_reducible refine (HB.out _ _ _ _ _ (hw1.trans hxr) zil).mono ?_;rw [Hbad.out];rintro e w5 ⟨rfl,hx5⟩;have hxr5:=hxr.trans hx5)
      |(go_at_call 149;refine (HB.out _ _ _ _ _ (hw1.trans hxr5) (zh zil hx5)).mono ?_;rw [Hbad.out];rintro e w6 ⟨rfl,hx6⟩))
     go_ret
     exact⟨zk (by rw [zio.out]),hw1.trans (hxr5.trans hx6)⟩
   ·have hkt:k=t.size:=by omega
    have hge:(t.size:Int)≤(k:Int):=by omega
    have zio:=za (show zy s p L t=!badT p T N by
     rw [Bool.eq_iff_iff,zgw,Bool.not_eq_true',← Bool.not_eq_true,zhx hT.out]
     constructor
     ·intro h;exact h.2 k (by rw [zev];omega)
     ·intro h
      refine⟨Hin.out,fun j hj=>?_⟩
      rw [zev] at hj
      rcases Nat.lt_or_eq_of_le hj with h1|rfl
      ·exact hdone.out j (by omega)
      ·rw [hkt] at h;exact h)
    clear hkt hlt hk
    go_wp2_with (first
     |(go_at_call 149;refine (HB.out _ _ _ _ _ (hw1.trans hxr) zil).mono ?_;rintro e w6 ⟨rfl,hx6⟩))
    go_ret
    exact⟨zk (by rw [zio.out]),hw1.trans (hxr.trans hx6)⟩
end
structure Tch (w:World) (A:Option Addr) (n:Nat) (B:Option Addr) (m:Nat) (B':Option Addr) (m':Nat) (s:Sys) (p:Aut) (L:Nat):Prop where
 at_:∃ lo hi,zN w lo hi A n s∧zG w lo hi B m B' m' p∧hi≤w.heap.size
 sv:zl s=true
 pv:zi p=true
 lt:L<64
section
variable {w W:World} {n c m d m' d' L:Nat} {A B B':Option Addr} {s:Sys} {p:Aut}
theorem Tch.ext (h:Tch w A n B m B' m' s p L)(hx:Ext w W):Tch W A n B m B' m' s p L:=by
 obtain⟨lo,hi,h1,h2,h3⟩:=h.at_
 exact⟨⟨lo,hi,h1.ext hx,h2.ext hx,Nat.le_trans h3 hx.size⟩,h.sv,h.pv,h.lt⟩
theorem zaO (h:Tch w A n B m B' m' s p L) :
  Calls Tryz.prog 134 #[.agg #[.bool false,.int .i64 0,.slice none 0 0,.slice none 0 0,.int .i64 s.al,.int .i64 s.st,.slice A n c,.int .i64 p.al,.slice B m d,.slice B' m' d',.int .i64 L]] w fun e w'=>e=.returned (.int .i64 (L:Nat))∧Ext w w':=by
 obtain⟨lo,hi,h1,h2,h3⟩:=h.at_
 have HV:=za (fun W (hW:Ext w W)=>zeq (c:=c) (d:=d) (d':=d') (L:=L) (h1.ext hW) (h2.ext hW) h.sv h.pv h.lt)
 have hw1:Ext w (w.alloc (.cells #[.bool false,.int .i64 0,.slice none 0 0,.slice none 0 0,.int .i64 s.al,.int .i64 s.st,.slice A n c,.int .i64 p.al,.slice B m d,.slice B' m' d',.int .i64 L] 99)):=(Ext.refl _).alloc _
 have b1:=Blk.new w 99 #[.bool false,.int .i64 0,.slice none 0 0,.slice none 0 0,.int .i64 s.al,.int .i64 s.st,.slice A n c,.int .i64 p.al,.slice B m d,.slice B' m' d',.int .i64 L]
 clear h h1 h2
 go_enter Tryz.func134,Tryz.ntmps134
 go_upto_region 1 with fail
 generalize w.alloc (.cells #[.bool false,.int .i64 0,.slice none 0 0,.slice none 0 0,.int .i64 s.al,.int .i64 s.st,.slice A n c,.int .i64 p.al,.slice B m d,.slice B' m' d',.int .i64 L] 99)=w1 at *
 have CB:=b1.cells
 have hww:=Ext.refl w1
 go_wp2_with (first
  |(go_at_call 146;refine (HV.out _ hw1).mono ?_;rintro e w2 ⟨rfl,hx2⟩))
 go_ret
 exact⟨rfl,hw1.trans hx2⟩
theorem zdN {t:ByteArray}(h:Tch w A n B m B' m' s p L)(ht:t.size≤9223372036854775807) :
  Calls Tryz.prog 219 #[.agg #[.bool false,.int .i64 0,.slice none 0 0,.slice none 0 0,.int .i64 s.al,.int .i64 s.st,.slice A n c,.int .i64 p.al,.slice B m d,.slice B' m' d',.int .i64 L],.string t] w fun e w'=>e=.returned (.bool (zy s p L t))∧Ext w w':=by
 obtain⟨lo,hi,h1,h2,h3⟩:=h.at_
 have HV:=za (fun W (hW:Ext w W)=>zfh (c:=c) (d:=d) (d':=d') (L:=L) (t:=t) (h1.ext hW) (h2.ext hW) h.sv h.pv h.lt (Nat.le_trans h3 hW.size) ht)
 have hw1:Ext w (w.alloc (.cells #[.bool false,.int .i64 0,.slice none 0 0,.slice none 0 0,.int .i64 s.al,.int .i64 s.st,.slice A n c,.int .i64 p.al,.slice B m d,.slice B' m' d',.int .i64 L] 99)):=(Ext.refl _).alloc _
 have b1:=Blk.new w 99 #[.bool false,.int .i64 0,.slice none 0 0,.slice none 0 0,.int .i64 s.al,.int .i64 s.st,.slice A n c,.int .i64 p.al,.slice B m d,.slice B' m' d',.int .i64 L]
 clear h h1 h2
 go_enter Tryz.func219,Tryz.ntmps219
 go_upto_region 1 with fail
 generalize w.alloc (.cells #[.bool false,.int .i64 0,.slice none 0 0,.slice none 0 0,.int .i64 s.al,.int .i64 s.st,.slice A n c,.int .i64 p.al,.slice B m d,.slice B' m' d',.int .i64 L] 99)=w1 at *
 have CB:=b1.cells
 have hww:=Ext.refl w1
 go_wp2_with (first
  |(go_at_call 77;refine (HV.out _ hw1).mono ?_;rintro e w2 ⟨rfl,hx2⟩))
 go_ret
 exact⟨rfl,hw1.trans hx2⟩
end
theorem str_loop (b:ByteArray):∀ (k:Nat) (i:Nat) (r:List UInt8),b.size - i=k→ByteArray.toList.loop b i r=r.reverse++b.data.toList.drop i:=by
 intro k
 induction k with
 |zero =>
  intro i r h
  unfold ByteArray.toList.loop
  rw [if_neg (by omega),List.drop_of_length_le (by rw [Array.length_toList];show b.size≤i;omega),List.append_nil]
 |succ k ih =>
  intro i r h
  have hi:i<b.size:=by omega
  unfold ByteArray.toList.loop
  rw [if_pos hi,ih (i+1) _ (by omega),List.drop_eq_getElem_cons (i:=i) (by rw [Array.length_toList];exact hi),List.reverse_cons,List.append_assoc]
  have e:b.get! i=b.data.toList[i]'(by rw [Array.length_toList];exact hi):=by
   rw [Array.getElem_toList]
   show b.data[i]! = _
   exact getElem!_pos b.data i hi
  rw [e]
  rfl
theorem str_data (b:ByteArray):b.toList=b.data.toList:=by
 unfold ByteArray.toList
 rw [str_loop b _ 0 [] rfl]
 rfl
theorem str_ext {x y:ByteArray}(h:x.toList=y.toList):x=y:=by
 rw [str_data,str_data] at h
 cases x;cases y
 congr 1
 exact Array.toList_inj.1 h
theorem str_ne {x y:ByteArray}(h:¬ x=y):(x.toList==y.toList)=false:=by
 rw [beq_eq_false_iff_ne]
 exact fun e=>h (str_ext e)
noncomputable def zgt (l:List ByteArray) (x:ByteArray):Bool:=by classical exact decide (x∈l)
theorem zdW {l:List ByteArray} {x:ByteArray}:zgt l x=true↔x∈l:=by unfold zgt;simp
theorem zcn {l:List ByteArray} {x:ByteArray}:zgt l x=false↔x∉l:=by rw [← Bool.not_eq_true,zdW]
theorem zcZ {w:World} {lo hi n c:Nat} {A:Option Addr} {l:List ByteArray} {x:ByteArray}(h:Reads w lo hi 1 A n (zW l)) :
  Calls Tryz.prog 233 #[.slice A n c,.string x] w fun e w'=>e=.returned (.bool (zgt l x))∧w=w':=by
 have hn:=h.len
 have hl:l.length=n:=by have:=h.length;rw [zbz] at this;omega
 have Hl:=za hl
 clear hl
 go_enter Tryz.func233,Tryz.ntmps233
 go_wp2_with fail
 go_loop [5] (fun iv=>∃ i:Nat,iv=.int .i64 i∧i≤n∧Hid (∀ j,j<i→l[j]?≠some x)) (fun iv=>n - (intOf iv).toNat)
 case atStart=>exact⟨0,rfl,Nat.zero_le _,za (fun j h=>by omega)⟩
 case round =>
  obtain⟨i,rfl,hi,hdone⟩:=hrel
  by_cases hlt:i<n
  ·have hlt':(i:Int)<(n:Int):=by omega
   obtain⟨ad,y,rfl,_,_,hy,cy⟩:=h.str hlt
   by_cases he:y=x
   ·subst he
    have hb:=za (zdW.2 (List.mem_of_getElem? hy.out))
    go_wp2_with fail
    go_ret
    exact⟨zk (by rw [hb.out]),rfl⟩
   ·have He:=za he
    have htest:=str_ne he
    clear he
    go_wp2_with fail
    go_round
    case rel=>exact⟨i+1,by go_num,by omega,za (fun j hj=>by
     rcases Nat.lt_or_eq_of_le (Nat.le_of_lt_succ hj) with h1|rfl
     ·exact hdone.out j h1
     ·rw [hy.out];intro h;exact He.out (Option.some.inj h))⟩
    case measure=>simp [intOf];omega
  ·obtain rfl:i=n:=by omega
   have hb:=za (show zgt l x=false by
    rw [zcn]
    intro hx
    obtain⟨j,hj⟩:=List.getElem?_of_mem hx
    exact hdone.out j (by have:=(List.getElem?_eq_some_iff.1 hj).1;have:=Hl.out;omega) hj)
   go_wp2_with fail
   go_ret
   exact⟨zk (by rw [hb.out]),rfl⟩
def zdA (f:ByteArray→Bool) (cols:List ByteArray) (x:ByteArray):List Bool:=cols.map fun c=>f (x++c)
def mkB (b:Bool):ByteArray:=if b then ⟨#[43]⟩ else ⟨#[45]⟩
def mkS (bs:List Bool):ByteArray:=bs.foldl (fun o b=>o++mkB b) ByteArray.empty
theorem mkS_snoc (bs:List Bool) (b:Bool):mkS (bs++[b])=mkS bs++mkB b:=by simp [mkS]
theorem zga:∀ (bs:List Bool),(mkS bs).data.toList=bs.map fun b=>if b then 43 else 45:=by
 have key:∀ (bs:List Bool) (o:ByteArray),(bs.foldl (fun o b=>o++mkB b) o).data.toList=o.data.toList++bs.map fun b=>if b then 43 else 45:=by
  intro bs
  induction bs with
  |nil=>intro o;simp
  |cons b r ih =>
   intro o
   rw [List.foldl_cons,ih,ByteArray.data_append,Array.toList_append,List.append_assoc,List.map_cons]
   cases b<;>rfl
 intro bs
 unfold mkS
 rw [key]
 rfl
theorem map_inj' {α β:Type} {f:α→β}(hf:∀ x y,f x=f y→x=y):∀ {a b:List α},a.map f=b.map f→a=b
 |[],[],_=>rfl
 |[],_ :: _,h=>by simp at h
 |_ :: _,[],h=>by simp at h
 |x :: a,y :: b,h=>by
  simp only [List.map_cons,List.cons.injEq] at h
  rw [hf x y h.1,map_inj' hf h.2]
theorem mkS_inj {a b:List Bool}(h:mkS a=mkS b):a=b:=by
 have h1:(mkS a).data.toList=(mkS b).data.toList:=by rw [h]
 rw [zga,zga] at h1
 exact map_inj' (fun x y=>by cases x<;>cases y<;>simp) h1
theorem mkS_size (bs:List Bool):(mkS bs).size=bs.length:=by
 have h:=congrArg List.length (zga bs)
 rw [List.length_map,Array.length_toList] at h
 exact h
section
variable {w W:World} {n c m d m' d' L:Nat} {A B B':Option Addr} {s:Sys} {p:Aut}
theorem zeO {C:Option Addr} {nc cc lo hi:Nat} {cols:List ByteArray} {x:ByteArray}(h:Tch w A n B m B' m' s p L)(hC:Reads w lo hi 1 C nc (zW cols))(hc:nc≤1000)(hx:x.size≤1000000)(hcs:∀ y∈cols,y.size≤1000000) :
  Calls Tryz.prog 138 #[.agg #[.bool false,.int .i64 0,.slice none 0 0,.slice none 0 0,.int .i64 s.al,.int .i64 s.st,.slice A n c,.int .i64 p.al,.slice B m d,.slice B' m' d',.int .i64 L],.slice C nc cc,.string x] w fun e w'=>e=.returned (.string (mkS (zdA (zy s p L) cols x)))∧Ext w w':=by
 have hl:cols.length=nc:=by have:=hC.length;rw [zbz] at this;omega
 have HV:=za (fun W (hW:Ext w W) (y:ByteArray) hy=>zdN (c:=c) (d:=d) (d':=d') (t:=y) (h.ext hW) hy)
 have HC:=za (fun W (hW:Ext w W)=>hC.ext hW)
 have Hl:=za hl
 have Hcs:=za hcs
 have hw1:Ext w (w.alloc (.cells #[.bool false,.int .i64 0,.slice none 0 0,.slice none 0 0,.int .i64 s.al,.int .i64 s.st,.slice A n c,.int .i64 p.al,.slice B m d,.slice B' m' d',.int .i64 L] 99)):=(Ext.refl _).alloc _
 have b1:=Blk.new w 99 #[.bool false,.int .i64 0,.slice none 0 0,.slice none 0 0,.int .i64 s.al,.int .i64 s.st,.slice A n c,.int .i64 p.al,.slice B m d,.slice B' m' d',.int .i64 L]
 clear h hC hl hcs
 go_enter Tryz.func138,Tryz.ntmps138
 go_upto_region 1 with fail
 generalize w.alloc (.cells #[.bool false,.int .i64 0,.slice none 0 0,.slice none 0 0,.int .i64 s.al,.int .i64 s.st,.slice A n c,.int .i64 p.al,.slice B m d,.slice B' m' d',.int .i64 L] 99)=w1 at *
 have CB:=b1.cells
 go_wp2_with fail
 go_loopw [7,8] (fun v iv wr=>∃ (k:Nat) (o:ByteArray),iv=.int .i64 k∧k≤nc∧v=.string o∧o.size≤k∧Hid (o=mkS (zdA (zy s p L) (cols.take k) x))∧Ext w1 wr) (fun _ iv _=>nc - (intOf iv).toNat)
 case atStart=>exact⟨0,_,rfl,Nat.zero_le _,rfl,by decide,za rfl,Ext.refl _⟩
 case round =>
  obtain⟨k,o,rfl,hk,rfl,hos,ho,hxr⟩:=hrel
  by_cases hlt:k<nc
  ·have hlt':(k:Int)<(nc:Int):=by omega
   obtain⟨ad,y,rfl,_,_,hy,cy⟩:=(HC.out wr (hw1.trans hxr)).str hlt
   have hys:=Hcs.out y (List.mem_of_getElem? hy.out)
   have CY:∀ W,Ext wr W→W.cell? (ad.add k)=some (.string y):=fun W hW=>hW.cell_some cy
   have CBr:∀ W,Ext wr W→∀ q,W.cell? ⟨w.heap.size,q,none⟩=#[Value.bool false,.int .i64 0,.slice none 0 0,.slice none 0 0,.int .i64 s.al,.int .i64 s.st,.slice A n c,.int .i64 p.al,.slice B m d,.slice B' m' d',.int .i64 L][q]?:=fun W hW=>CB W (hxr.trans hW)
   have hsz:¬ 9223372036854775807<x.size+y.size:=by omega
   have hsz2:¬ 9223372036854775807<o.size+1:=by omega
   have hsum:(x++y).size≤9223372036854775807:=by rw [ByteArray.size_append];omega
   have HVr:=za (fun W (hW:Ext wr W)=>HV.out W ((hw1.trans hxr).trans hW) (x++y) hsum)
   have hww:=Ext.refl wr
   have hst:=za (show mkS (zdA (zy s p L) (cols.take (k+1)) x)=o++mkB (zy s p L (x++y)) by
    rw [List.take_add_one,hy.out,zdA,List.map_append,← zdA,ho.out,Option.toList_some,List.map_singleton,mkS_snoc])
   obtain⟨bv,hbv⟩:∃ bv,Hid (zy s p L (x++y)=bv):=⟨_,rfl⟩
   rw [hbv.out] at HVr hst
   clear cy hsum
   go_wp2_with fail
   go_region_held3 (fun W=>Ext wr W) (first|assumption|(refine Ext.drew ?_;assumption)|(refine Ext.trans ?_ (by assumption);assumption)|(refine Ext.trans ?_ (by assumption);refine Ext.drew ?_;assumption)) (first
    |(go_at_call 219;refine (HVr.out _ ?_).mono ?_;(first|assumption|(refine Ext.drew ?_;assumption));rintro e w7 ⟨rfl,hx7⟩))
   have hx17:Ext w1 w7:=hxr.trans (by assumption)
   cases bv
   all_goals
    go_wp2_with fail
    go_roundw
    case rel=>exact⟨k+1,_,by go_num,by omega,rfl,by rw [ByteArray.size_append];show o.size+1≤k+1;omega,hst.symm,hx17⟩
    case measure=>simp [intOf];omega
  ·obtain rfl:k=nc:=by omega
   have zio:=za (show mkS (zdA (zy s p L) cols x)=o by rw [ho.out,List.take_of_length_le (by have:=Hl.out;omega)])
   go_wp2_with fail
   go_ret
   exact⟨by rw [zio.out];rfl,hw1.trans hxr⟩
end
def RetStrL (w:World) (l:List ByteArray) (e:Ending) (w':World):Prop:=
 ∃ A c,e=.returned (.slice A l.length c)∧w'.ownsRow w.heap.size 9 1 (.slice A l.length c) l.length (zW l)∧Ext w w'
def zbL (f:ByteArray→Bool) (cols words:List ByteArray):List ByteArray:=words.map fun x=>mkS (zdA f cols x)
theorem strs_snoc (l:List ByteArray) (x:ByteArray):zW (l++[x])=zW l++[.string x]:=by simp [zW]
section
variable {w W:World} {n c m d m' d' L:Nat} {A B B':Option Addr} {s:Sys} {p:Aut}
theorem zdP {C R:Option Addr} {nc cc nr cr lo hi lo2 hi2:Nat} {cols rows:List ByteArray}(h:Tch w A n B m B' m' s p L)(hC:Reads w lo hi 1 C nc (zW cols))(hR:Reads w lo2 hi2 1 R nr (zW rows))(hc:nc≤1000)(hr:nr≤1000)(hcs:∀ y∈cols,y.size≤1000000)(hrs:∀ y∈rows,y.size≤1000000) :
  Calls Tryz.prog 136 #[.agg #[.bool false,.int .i64 0,.slice none 0 0,.slice none 0 0,.int .i64 s.al,.int .i64 s.st,.slice A n c,.int .i64 p.al,.slice B m d,.slice B' m' d',.int .i64 L],.slice C nc cc,.slice R nr cr] w (RetStrL w (zbL (zy s p L) cols rows)):=by
 have hl:rows.length=nr:=by have:=hR.length;rw [zbz] at this;omega
 have HV:=za (fun W (hW:Ext w W) (y:ByteArray) hy=>zeO (c:=c) (d:=d) (d':=d') (cc:=cc) (x:=y) (h.ext hW) (hC.ext hW) hc hy hcs)
 have HR:=za (fun W (hW:Ext w W)=>hR.ext hW)
 have Hl:=za hl
 have Hrs:=za hrs
 have hw1:Ext w (w.alloc (.cells #[.bool false,.int .i64 0,.slice none 0 0,.slice none 0 0,.int .i64 s.al,.int .i64 s.st,.slice A n c,.int .i64 p.al,.slice B m d,.slice B' m' d',.int .i64 L] 99)):=(Ext.refl _).alloc _
 have b1:=Blk.new w 99 #[.bool false,.int .i64 0,.slice none 0 0,.slice none 0 0,.int .i64 s.al,.int .i64 s.st,.slice A n c,.int .i64 p.al,.slice B m d,.slice B' m' d',.int .i64 L]
 clear h hC hR hl hrs hcs
 go_enter Tryz.func136,Tryz.ntmps136
 go_upto_region 1 with fail
 generalize w.alloc (.cells #[.bool false,.int .i64 0,.slice none 0 0,.slice none 0 0,.int .i64 s.al,.int .i64 s.st,.slice A n c,.int .i64 p.al,.slice B m d,.slice B' m' d',.int .i64 L] 99)=w1 at *
 have CB:=b1.cells
 go_wp2_with fail
 go_loopw [7,8] (fun v iv wr=>∃ k:Nat,iv=.int .i64 k∧k≤nr∧wr.ownsRow w1.heap.size 9 1 v k (zW (zbL (zy s p L) cols (rows.take k)))∧Ext w1 wr) (fun _ iv _=>nr - (intOf iv).toNat)
 case atStart=>exact⟨0,rfl,Nat.zero_le _,World.ownsRow_lit w1 #[] 0 (Nat.le_refl _) (by unfold maxLen;omega) rfl,(Ext.refl _).alloc _⟩
 case round =>
  obtain⟨k,rfl,hk,zil,hxr⟩:=hrel
  by_cases hlt:k<nr
  ·have hlt':(k:Int)<(nr:Int):=by omega
   obtain⟨ad,y,rfl,_,_,hy,cy⟩:=(HR.out wr (hw1.trans hxr)).str hlt
   have hys:=Hrs.out y (List.mem_of_getElem? hy.out)
   have CY:∀ W,Ext wr W→W.cell? (ad.add k)=some (.string y):=fun W hW=>hW.cell_some cy
   have CBr:∀ W,Ext wr W→∀ q,W.cell? ⟨w.heap.size,q,none⟩=#[Value.bool false,.int .i64 0,.slice none 0 0,.slice none 0 0,.int .i64 s.al,.int .i64 s.st,.slice A n c,.int .i64 p.al,.slice B m d,.slice B' m' d',.int .i64 L][q]?:=fun W hW=>CB W (hxr.trans hW)
   have HVr:=za (fun W (hW:Ext wr W)=>HV.out W ((hw1.trans hxr).trans hW) y hys)
   have hww:=Ext.refl wr
   have hst:=za (show zW (zbL (zy s p L) cols (rows.take (k+1)))=zW (zbL (zy s p L) cols (rows.take k))++[.string (mkS (zdA (zy s p L) cols y))] by
    rw [List.take_add_one,hy.out,zbL,List.map_append,← zbL,Option.toList_some,List.map_singleton,strs_snoc])
   generalize mkS (zdA (zy s p L) cols y)=z at *
   clear cy
   go_wp2_with fail
   refine uR (fun X=>Ext wr X) [9] (zw.of [0,1,2,3,4,5,6,7,8,9,10]) ?_
   refine uQ ?_
   (refine zd rfl rfl rfl (fun K hK=>?_);go_simp)
   refine (HVr.out _ hww.drew).mono ?_
   rintro e w5 ⟨rfl,hx5⟩
   have hxr5:Ext wr w5:=hww.drew.trans hx5
   refine hK.out _ _ hxr5 ?_
   refine pT ?_
   refine uQ ?_
   (refine zd rfl rfl rfl (fun K hK=>?_);go_simp)
   refine hK.out _ _ (hxr5.alloc _) ?_
   refine pT ?_
   (refine zb rfl rfl rfl rfl (fun K hK=>?_))
   refine zaG w1 w5 _ _ _ rfl 9 _ 1 16 Tryz.underlying100 zo rfl (by decide) _ k (zW (zbL (zy s p L) cols (rows.take k))) _ _ rfl rfl (hxr.trans hxr5).size (zh zil hxr5) rfl (zcb _) (by unfold maxLen;omega) (by omega) ?_
   intro g8 cap8 w8 hown8 hg8 hat8 hlt8
   refine hK.out _ _ ?_
   refine pT ?_
   refine uQ ?_
   refine ze ?_
   go_wp2_with fail
   go_roundw
   case rel=>exact⟨k+1,by go_num,by omega,by rw [hst.out];exact hown8,(hxr.trans hxr5).grown hg8 (fun k hk=>(zil.lt k hk).1)⟩
   case measure=>simp [intOf];omega
  ·obtain rfl:k=nr:=by omega
   obtain⟨A5,c5,rfl⟩:=zg zil
   have zio:=za (show (rows.take k)=rows from List.take_of_length_le (by have:=Hl.out;omega))
   rw [zio.out] at zil
   have hlen:=za (show (zbL (zy s p L) cols rows).length=k by rw [zbL,List.length_map];exact Hl.out)
   go_wp2_with fail
   go_ret
   exact⟨A5,c5,by rw [hlen.out];rfl,by rw [hlen.out];exact zn zil hw1.size,hw1.trans hxr⟩
theorem zfD {x:ByteArray}(h:Tch w A n B m B' m' s p L)(hx:x.size≤9223372036854775807) :
  Calls Tryz.prog 231 #[.agg #[.bool false,.int .i64 0,.slice none 0 0,.slice none 0 0,.int .i64 s.al,.int .i64 s.st,.slice A n c,.int .i64 p.al,.slice B m d,.slice B' m' d',.int .i64 L],.string x] w fun e w'=>e=.returned (.bool (inB x L&&decide (x.size≤4000)))∧Ext w w':=by
 have HV:=za (fun W (hW:Ext w W)=>zaO (c:=c) (d:=d) (d':=d') (h.ext hW))
 have hL:=h.lt
 have hw1:Ext w (w.alloc (.cells #[.bool false,.int .i64 0,.slice none 0 0,.slice none 0 0,.int .i64 s.al,.int .i64 s.st,.slice A n c,.int .i64 p.al,.slice B m d,.slice B' m' d',.int .i64 L] 99)):=(Ext.refl _).alloc _
 have b1:=Blk.new w 99 #[.bool false,.int .i64 0,.slice none 0 0,.slice none 0 0,.int .i64 s.al,.int .i64 s.st,.slice A n c,.int .i64 p.al,.slice B m d,.slice B' m' d',.int .i64 L]
 clear h
 cases hin:inB x L
 all_goals
  have Hin:=za hin
  clear hin
  go_enter Tryz.func231,Tryz.ntmps231
  go_upto_region 1 with fail
  generalize w.alloc (.cells #[.bool false,.int .i64 0,.slice none 0 0,.slice none 0 0,.int .i64 s.al,.int .i64 s.st,.slice A n c,.int .i64 p.al,.slice B m d,.slice B' m' d',.int .i64 L] 99)=w1 at *
  have CB:=b1.cells
  have hww:=Ext.refl w1
  go_wp2_with (first
   |(go_at_call 134;refine (HV.out _ hw1).mono ?_;rintro e w2 ⟨rfl,hx2⟩)
   |(go_at_call 147;refine (zaf hx (by omega)).mono ?_;rw [Hin.out];rintro e w3 ⟨rfl,rfl⟩))
  go_ret
  exact⟨zk (by first|rfl|(rw [Bool.true_and,decide_eq_decide];omega)),hw1.trans hx2⟩
end
def zeo (l:Nat):ByteArray:=strOfNums [((97+l:Nat):Int)]
theorem zdG (l:Nat):(zeo l).size=1:=strOfNums_size _
structure zdz (L:Nat) (f:ByteArray→Bool) (rows cols:List ByteArray):Prop where
 r1:1≤rows.length
 r12:rows.length≤12
 c1:1≤cols.length
 c20:cols.length≤20
 r0:rows[0]?=some ⟨#[]⟩
 c0:cols[0]?=some ⟨#[]⟩
 rw_:∀ (i:Nat) (x:ByteArray),1≤i→rows[i]?=some x→inB x L=true∧∃ y l,l<6∧x=y++zeo l∧y∈rows.take i
 cw:∀ (i:Nat) (x:ByteArray),1≤i→cols[i]?=some x→inB x L=true∧x.size≤4000∧x∉cols.take i
 nd:(rows.map (zdA f cols)).Nodup
section
variable {L:Nat} {f:ByteArray→Bool} {rows cols:List ByteArray}
theorem inB_empty (L:Nat):inB ⟨#[]⟩ L=true:=by unfold inB zdJ;rfl
theorem zdz.rsz (h:zdz L f rows cols):∀ (i:Nat) (x:ByteArray),rows[i]?=some x→x.size≤i:=by
 intro i
 induction i using Nat.strongRecOn with
 |ind i ih =>
  intro x hx
  rcases Nat.eq_zero_or_pos i with rfl|hi
  ·rw [h.r0] at hx
   obtain rfl:=Option.some.inj hx
   exact Nat.le_refl _
  ·obtain⟨-,y,l,hl,rfl,hy⟩:=h.rw_ i x hi hx
   obtain⟨j,hj⟩:=List.getElem?_of_mem hy
   have hji:j<i:=by have:=(List.getElem?_eq_some_iff.1 hj).1;rw [List.length_take] at this;omega
   rw [List.getElem?_take_of_lt hji] at hj
   have:=ih j hji y hj
   rw [ByteArray.size_append,zdG l]
   omega
theorem zdz.rin (h:zdz L f rows cols) {x:ByteArray}(hx:x∈rows):inB x L=true∧x.size≤12:=by
 obtain⟨i,hi⟩:=List.getElem?_of_mem hx
 have hil:=(List.getElem?_eq_some_iff.1 hi).1
 refine⟨?_,by have:=h.rsz i x hi;have:=h.r12;omega⟩
 rcases Nat.eq_zero_or_pos i with rfl|h0
 ·rw [h.r0] at hi
  obtain rfl:=Option.some.inj hi
  exact inB_empty L
 ·exact (h.rw_ i x h0 hi).1
theorem zdz.cin (h:zdz L f rows cols) {x:ByteArray}(hx:x∈cols):inB x L=true∧x.size≤4000:=by
 obtain⟨i,hi⟩:=List.getElem?_of_mem hx
 rcases Nat.eq_zero_or_pos i with rfl|h0
 ·rw [h.c0] at hi
  obtain rfl:=Option.some.inj hi
  exact⟨inB_empty L,by decide⟩
 ·exact⟨(h.cw i x h0 hi).1,(h.cw i x h0 hi).2.1⟩
theorem rowsM_nodup (h:zdz L f rows cols):(zbL f cols rows).Nodup:=by
 have h1:=h.nd
 unfold zbL
 have h2:rows.map (fun x=>mkS (zdA f cols x))=(rows.map (zdA f cols)).map mkS:=by rw [List.map_map];rfl
 rw [h2]
 exact List.pairwise_map.2 (h1.imp fun hne e=>hne (mkS_inj e))
end
def TabAt (w:World) (R:Option Addr) (nr:Nat) (C:Option Addr) (nc:Nat) (rows cols:List ByteArray):Prop:=
 ∃ lo hi lo2 hi2,Reads w lo hi 1 R nr (zW rows)∧Reads w lo2 hi2 1 C nc (zW cols)
theorem TabAt.ext {w W:World} {R C:Option Addr} {nr nc:Nat} {rows cols:List ByteArray}(h:TabAt w R nr C nc rows cols)(hx:Ext w W):TabAt W R nr C nc rows cols:=by
 obtain⟨lo,hi,lo2,hi2,h1,h2⟩:=h
 exact⟨lo,hi,lo2,hi2,h1.ext hx,h2.ext hx⟩
theorem TabAt.nr {w:World} {R C:Option Addr} {nr nc:Nat} {rows cols:List ByteArray}(h:TabAt w R nr C nc rows cols):rows.length=nr∧cols.length=nc:=by
 obtain⟨lo,hi,lo2,hi2,h1,h2⟩:=h
 have e1:=h1.length
 have e2:=h2.length
 rw [zbz] at e1 e2
 omega
theorem Reads.takeS {w:World} {lo hi n k:Nat} {A:Option Addr} {l:List ByteArray}(h:Reads w lo hi 1 A n (zW l))(hk:k≤n):Reads w lo hi 1 A k (zW (l.take k)):=by
 have hl:=h.length
 rw [zbz] at hl
 refine⟨by rw [zbz,List.length_take];omega,by have:=h.len;omega,fun h0=>?_⟩
 obtain⟨ad,e,h1,h2,h3⟩:=h.2.2 (by omega)
 refine⟨ad,e,h1,h2,fun j u hu=>h3 j u ?_⟩
 unfold zW at hu ⊢
 rw [List.map_take] at hu
 have hj:j<k:=by have:=(List.getElem?_eq_some_iff.1 hu).1;rw [List.length_take] at this;omega
 rwa [List.getElem?_take_of_lt hj] at hu
theorem str_front (y:ByteArray) (l:Nat):(y++zeo l).extract 0 y.size=y:=by
 rw [ByteArray.extract_append_eq_left rfl]
section
variable {w W:World} {L nr nc cr cc:Nat} {R C:Option Addr} {rows cols:List ByteArray} {f:ByteArray→Bool}
theorem zhU (hT:TabAt w R nr C nc rows cols)(hI:zdz L f rows cols)(hL:L<64)(hcr:nr≤cr)(hcc:nc≤cc) :
  Calls Tryz.prog 273 #[.int .i64 L,.agg #[.slice R nr cr,.slice C nc cc]] w fun e w'=>e=.returned (.bool true)∧Ext w w':=by
 obtain⟨e1,e2⟩:=hT.nr
 have hr1:=hI.r1;have hr12:=hI.r12;have hc1:=hI.c1;have hc20:=hI.c20
 rw [e1] at hr1 hr12
 rw [e2] at hc1 hc20
 obtain⟨lo,hi,lo2,hi2,h1,h2⟩:=hT
 obtain⟨ad,x,rfl,_,_,hx,cx⟩:=h1.str (show 0<nr by omega)
 obtain⟨bd,y,rfl,_,_,hy,cy⟩:=h2.str (show 0<nc by omega)
 obtain rfl:=Option.some.inj (hx.out.symm.trans hI.r0)
 obtain rfl:=Option.some.inj (hy.out.symm.trans hI.c0)
 rw [addr_zero] at cx cy
 have H1:=za (fun W (hW:Ext w W)=>h1.ext hW)
 have H2:=za (fun W (hW:Ext w W)=>h2.ext hW)
 have HI:=za hI
 have hw1:Ext w (w.alloc (.cells #[.slice (some ad) nr cr,.slice (some bd) nc cc] 102)):=(Ext.refl _).alloc _
 have b1:=Blk.new w 102 #[.slice (some ad) nr cr,.slice (some bd) nc cc]
 have CX:=fun W (hW:Ext w W)=>hW.cell_some cx
 have CY:=fun W (hW:Ext w W)=>hW.cell_some cy
 clear h1 h2 hI hx hy cx cy e1 e2
 go_enter Tryz.func273,Tryz.ntmps273
 go_upto_region 1 with fail
 generalize w.alloc (.cells #[.slice (some ad) nr cr,.slice (some bd) nc cc] 102)=w1 at *
 have k1:=b1.cell
 have cx:=CX _ hw1
 have cy:=CY _ hw1
 have hww:=Ext.refl w1
 go_wp2_with fail
 go_loopw [7] (fun iv wr=>∃ k:Nat,1≤k∧k≤nr∧iv=.int .i64 k∧Ext w1 wr) (fun iv _=>nr - (intOf iv).toNat)
 case atStart=>exact⟨1,Nat.le_refl _,hr1,rfl,hww⟩
 case round =>
  clear hww k1 cx cy
  obtain⟨k,hk1,hk,rfl,hxr⟩:=hrel
  by_cases hlt:k<nr
  ·have hlt':(k:Int)<(nr:Int):=by omega
   have hkc:(k:Int)≤(cr:Int):=by omega
   obtain⟨ad1,x,e,_,_,hx,cx⟩:=(H1.out wr (hw1.trans hxr)).str hlt
   obtain rfl:=Option.some.inj e
   obtain⟨hin,y,l,hl,hxy,hy⟩:=HI.out.rw_ k x hk1 hx.out
   have hsz:x.size=y.size+1:=by rw [hxy,ByteArray.size_append,zdG]
   have hxt:x.extract 0 y.size=y:=by rw [hxy,str_front]
   have h0:0<x.size:=by omega
   have hys:y.size≤12:=by have:=HI.out.rsz k x hx.out;omega
   have hmem:=za (zdW.2 hy)
   have HRt:=za (fun W (hW:Ext w W)=>(H1.out W hW).takeS hk)
   have Hin:=za hin
   have CXr:∀ W,Ext wr W→W.cell? (ad.add k)=some (.string x):=fun W hW=>hW.cell_some cx
   have CB:∀ W,Ext wr W→∀ q,W.cell? ⟨w.heap.size,q,none⟩=#[Value.slice (some ad) nr cr,.slice (some bd) nc cc][q]?:=fun W hW=>(b1.ext (hxr.trans hW)).cell
   have hww:=Ext.refl wr
   have hwr:IntKind.i64.wrap (y.size:Int)=(y.size:Int):=IntWalk.i64_in _ (by omega)
   have hne:((y.size:Int)+1==0)=false:=by simp;omega
   have hyx:(y.size:Int)≤(y.size:Int)+1:=by omega
   clear hin hy hxy cx hx hl e
   go_wp2_with fail
   refine uR (fun X=>Ext wr X) [] (zw.of [0,1,2,3,4,5,6,7,8,9,10,11,12,13,14,15,16,17,18,19,20,21]) ?_
   refine uQ ?_
   (refine zd rfl rfl rfl (fun K hK=>?_);go_simp)
   refine (zaf (by omega) (by omega)).mono ?_
   rw [Hin.out]
   rintro e w3 ⟨rfl,rfl⟩
   refine hK.out _ _ hww.drew ?_
   refine pT ?_
   refine uQ ?_
   (refine zd rfl rfl rfl (fun K hK=>?_);go_simp)
   refine (zcZ (HRt.out _ (hw1.trans (hxr.trans hww.drew)))).mono ?_
   rw [hmem.out]
   rintro e w4 ⟨rfl,rfl⟩
   refine hK.out _ _ hww.drew ?_
   refine pT ?_
   refine uQ ?_
   refine ze ?_
   go_wp2_with fail
   go_roundw
   case rel=>exact⟨k+1,by omega,by omega,by go_num,hxr.trans hww.drew⟩
   case measure=>simp [intOf];omega
  ·have hge:(nr:Int)≤(k:Int):=by omega
   go_wp2_with fail
   go_loopw [9] (fun iv wr=>∃ k:Nat,1≤k∧k≤nc∧iv=.int .i64 k∧Ext w1 wr) (fun iv _=>nc - (intOf iv).toNat)
   case atStart=>exact⟨1,Nat.le_refl _,hc1,rfl,hxr⟩
   case round =>
    clear hxr hge hlt hk hk1
    obtain⟨k,hk1,hk,rfl,hxr⟩:=hrel
    by_cases hlt:k<nc
    ·have hlt':(k:Int)<(nc:Int):=by omega
     have hkc:(k:Int)≤(cc:Int):=by omega
     obtain⟨bd1,x,e,_,_,hx,cx⟩:=(H2.out wr (hw1.trans hxr)).str hlt
     obtain rfl:=Option.some.inj e
     obtain⟨hin,hsz,hni⟩:=HI.out.cw k x hk1 hx.out
     have hsz':¬ (4000<(x.size:Int)):=by omega
     have hmem:=za (zcn.2 hni)
     have HRt:=za (fun W (hW:Ext w W)=>(H2.out W hW).takeS hk)
     have Hin:=za hin
     have CXr:∀ W,Ext wr W→W.cell? (bd.add k)=some (.string x):=fun W hW=>hW.cell_some cx
     have CB:∀ W,Ext wr W→∀ q,W.cell? ⟨w.heap.size,q,none⟩=#[Value.slice (some ad) nr cr,.slice (some bd) nc cc][q]?:=fun W hW=>(b1.ext (hxr.trans hW)).cell
     have hww:=Ext.refl wr
     clear hin hni cx hx e
     go_wp2_with (first
      |(go_at_call 147;refine (zaf (by omega) (by omega)).mono ?_;rw [Hin.out];rintro e w3 ⟨rfl,rfl⟩)
      |(go_at_call 233;refine (zcZ (HRt.out _ (hw1.trans hxr))).mono ?_;rw [hmem.out];rintro e w3 ⟨rfl,rfl⟩))
     go_roundw
     case rel=>exact⟨k+1,by omega,by omega,by go_num,hxr⟩
     case measure=>simp [intOf];omega
    ·have hge:(nc:Int)≤(k:Int):=by omega
     go_wp2_with fail
     go_ret
     exact⟨rfl,hw1.trans hxr⟩
end
theorem zdz.rsz' {L:Nat} {f:ByteArray→Bool} {rows cols:List ByteArray}(h:zdz L f rows cols):(∀ y∈rows,y.size≤1000000)∧∀ y∈cols,y.size≤1000000:=
 ⟨fun y hy=>by have:=(h.rin hy).2;omega,fun y hy=>by have:=(h.cin hy).2;omega⟩
section
variable {w W:World} {n c m d m' d' L:Nat} {A B B':Option Addr} {s:Sys} {p:Aut} {nr nc cr cc:Nat} {R C:Option Addr} {rows cols:List ByteArray}
theorem zbM (h:Tch w A n B m B' m' s p L)(hT:TabAt w R nr C nc rows cols)(hI:zdz L (zy s p L) rows cols)(hcr:nr≤cr)(hcc:nc≤cc) :
  Calls Tryz.prog 216 #[.agg #[.bool false,.int .i64 0,.slice none 0 0,.slice none 0 0,.int .i64 s.al,.int .i64 s.st,.slice A n c,.int .i64 p.al,.slice B m d,.slice B' m' d',.int .i64 L],.agg #[.slice R nr cr,.slice C nc cc]] w fun e w'=>e=.returned (.bool true)∧Ext w w':=by
 obtain⟨e1,e2⟩:=hT.nr
 have hr12:=hI.r12;have hc20:=hI.c20
 rw [e1] at hr12
 rw [e2] at hc20
 have HA:=za (fun W (hW:Ext w W)=>zaO (c:=c) (d:=d) (d':=d') (h.ext hW))
 have HS:=za (fun W (hW:Ext w W)=>zhU (cr:=cr) (cc:=cc) (hT.ext hW) hI h.lt hcr hcc)
 obtain⟨lo,hi,lo2,hi2,h1,h2⟩:=hT
 have HR:=za (fun W (hW:Ext w W)=>zdP (c:=c) (d:=d) (d':=d') (cc:=cc) (cr:=cr) (h.ext hW) (h2.ext hW) (h1.ext hW) (by omega) (by omega) hI.rsz'.2 hI.rsz'.1)
 have hnd:=za (rowsM_nodup hI)
 have hlen:(zbL (zy s p L) cols rows).length=nr:=by rw [zbL,List.length_map];exact e1
 generalize zbL (zy s p L) cols rows=zs at *
 have hx0:Ext w ((w.alloc (.cells #[.bool false,.int .i64 0,.slice none 0 0,.slice none 0 0,.int .i64 s.al,.int .i64 s.st,.slice A n c,.int .i64 p.al,.slice B m d,.slice B' m' d',.int .i64 L] 99)).alloc (.cells #[.slice R nr cr,.slice C nc cc] 102)):=((Ext.refl _).alloc _).alloc _
 obtain⟨b1,b2⟩:=zU (Ext.refl ((w.alloc (.cells #[.bool false,.int .i64 0,.slice none 0 0,.slice none 0 0,.int .i64 s.al,.int .i64 s.st,.slice A n c,.int .i64 p.al,.slice B m d,.slice B' m' d',.int .i64 L] 99)).alloc (.cells #[.slice R nr cr,.slice C nc cc] 102)))
 clear h h1 h2 hI e1 e2
 go_enter Tryz.func216,Tryz.ntmps216
 go_upto_region 1 with fail
 generalize (w.alloc (.cells #[.bool false,.int .i64 0,.slice none 0 0,.slice none 0 0,.int .i64 s.al,.int .i64 s.st,.slice A n c,.int .i64 p.al,.slice B m d,.slice B' m' d',.int .i64 L] 99)).alloc (.cells #[.slice R nr cr,.slice C nc cc] 102)=w1 at *
 have CB:=b1.cells
 have CT:=b2.cells
 have hww:=Ext.refl w1
 refine uR (fun X=>Ext w1 X) [] (zw.of [0,2,1,3,4]) ?_
 refine uQ ?_
 (refine zd rfl rfl rfl (fun K hK=>?_);go_simp)
 refine (HA.out _ (hx0.trans hww.drew)).mono ?_
 rintro e w2 ⟨rfl,hx2⟩
 have hx12:Ext w1 w2:=hww.drew.trans hx2
 refine hK.out _ _ hx12 ?_
 refine pT ?_
 refine uQ ?_
 (refine zd rfl rfl rfl (fun K hK=>?_);go_simp)
 refine (HS.out _ (hx0.trans hx12)).mono ?_
 rintro e w3 ⟨rfl,hx3⟩
 have hx13:=hx12.trans hx3
 refine hK.out _ _ hx13 ?_
 refine pT ?_
 refine uQ ?_
 refine ze ?_
 clear hx12 hx2 hx3
 go_wp2_with (first|(go_at_call 136;refine (HR.out _ (hx0.trans hx13)).mono ?_;rintro e w4 ⟨G,g,rfl,zil,hx4⟩))
 rw [hlen] at zil
 have hlen2:=za hlen
 clear hlen
 have hx14:=hx13.trans hx4
 have hrd:=Reads.of_own zil
 have Hrd:=za (fun W (hW:Ext w4 W)=>hrd.ext hW)
 have hng:nr≤g:=by
  rcases zil.2 with ⟨e,h0⟩|⟨g0,cap,cur,e,_,_,hcap,_⟩
  ·omega
  ·injection e with _ _ h3;omega
 clear hx13 hx4 zil hrd
 go_loopw [6] (fun iv wr=>∃ k:Nat,k≤nr∧iv=.int .i64 k∧Ext w4 wr) (fun iv _=>nr - (intOf iv).toNat)
 case atStart=>exact⟨0,Nat.zero_le _,rfl,Ext.refl _⟩
 case round =>
  obtain⟨k,hk,rfl,hxr⟩:=hrel
  by_cases hlt:k<nr
  ·have hlt':(k:Int)<(nr:Int):=by omega
   have hkg:(k:Int)≤(g:Int):=by omega
   obtain⟨ad,x,rfl,_,_,hx,cx⟩:=(Hrd.out wr hxr).str hlt
   have hmem:=za (show zgt (zs.take k) x=false by
    rw [zcn]
    intro hm
    obtain⟨j,hj⟩:=List.getElem?_of_mem hm
    have hjk:j<k:=by have:=(List.getElem?_eq_some_iff.1 hj).1;rw [List.length_take] at this;omega
    rw [List.getElem?_take_of_lt hjk] at hj
    have:=(List.getElem?_inj (i:=j) (j:=k) (by have:=hlen2.out;omega) hnd.out).1 (hj.trans hx.out.symm)
    omega)
   have HRt:=za (fun W (hW:Ext w4 W)=>(Hrd.out W hW).takeS hk)
   have CX:∀ W,Ext wr W→W.cell? (ad.add k)=some (.string x):=fun W hW=>hW.cell_some cx
   have hww:=Ext.refl wr
   clear cx hx
   go_wp2_with fail
   refine uR (fun X=>Ext wr X) [] (zw.of [0,1,2,3,4,5,6,7]) ?_
   refine uQ ?_
   (refine zd rfl rfl rfl (fun K hK=>?_);go_simp)
   refine (zcZ (HRt.out _ (hxr.trans hww.drew))).mono ?_
   rw [hmem.out]
   rintro e w5 ⟨rfl,rfl⟩
   refine hK.out _ _ hww.drew ?_
   refine pT ?_
   refine uQ ?_
   refine ze ?_
   go_wp2_with fail
   go_roundw
   case rel=>exact⟨k+1,by omega,by go_num,hxr.trans hww.drew⟩
   case measure=>simp [intOf];omega
  ·have hge:(nr:Int)≤(k:Int):=by omega
   go_wp2_with fail
   go_ret
   exact⟨rfl,hx0.trans (hx14.trans hxr)⟩
def candL (L:Nat) (rows:List ByteArray):List ByteArray:=rows.flatMap fun r=>(letters L 6).map fun l=>r++zeo l
noncomputable def zbK (L:Nat) (f:ByteArray→Bool) (rows cols:List ByteArray):Option ByteArray:=(candL L rows).find? fun x=>!zgt (zbL f cols rows) (mkS (zdA f cols x))
theorem find_pre {α:Type} {P:α→Bool} {pre post l:List α} {x:α}(hl:l=pre++x :: post)(hp:∀ y∈pre,P y=false)(hx:P x=true):l.find? P=some x:=by
 rw [hl,List.find?_append,List.find?_eq_none.2 (fun y hy=>by rw [hp y hy];decide),Option.none_or,List.find?_cons_of_pos hx]
theorem open_find {zs cols rows:List ByteArray} {ls:List Nat} {f:ByteArray→Bool} {i k l:Nat} {x y:ByteArray}(hx:rows[i]?=some x)(hl:ls[k]?=some l)(hy:x++zeo l=y)
  (hd:∀ y∈(rows.take i).flatMap (fun r=>ls.map fun l=>r++zeo l),zgt zs (mkS (zdA f cols y))=true) (hdk:∀ y∈(ls.take k).map (fun l=>x++zeo l),zgt zs (mkS (zdA f cols y))=true) (hm:zgt zs (mkS (zdA f cols y))=false) :
  (rows.flatMap fun r=>ls.map fun l=>r++zeo l).find? (fun x=>!zgt zs (mkS (zdA f cols x)))=some y:=by
 have hr:rows=rows.take i++x :: rows.drop (i+1):=by
  obtain⟨h2,h3⟩:=List.getElem?_eq_some_iff.1 hx
  rw [← h3,← List.drop_eq_getElem_cons h2,List.take_append_drop]
 have hlr:ls=ls.take k++l :: ls.drop (k+1):=by
  obtain⟨h2,h3⟩:=List.getElem?_eq_some_iff.1 hl
  rw [← h3,← List.drop_eq_getElem_cons h2,List.take_append_drop]
 have e:ls.map (fun l=>x++zeo l)=(ls.take k).map (fun l=>x++zeo l)++y :: (ls.drop (k+1)).map (fun l=>x++zeo l):=by
  conv=>lhs;rw [hlr]
  rw [List.map_append,List.map_cons,hy]
 refine find_pre (pre:=(rows.take i).flatMap (fun r=>ls.map fun l=>r++zeo l)++(ls.take k).map (fun l=>x++zeo l)) (post:=(ls.drop (k+1)).map (fun l=>x++zeo l)++(rows.drop (i+1)).flatMap (fun r=>ls.map fun l=>r++zeo l)) ?_ ?_ ?_
 ·conv=>lhs;rw [hr]
  rw [List.flatMap_append,List.flatMap_cons,e]
  simp only [List.append_assoc,List.cons_append]
 ·intro y' hy'
  show (!zgt zs (mkS (zdA f cols y')))=false
  rcases List.mem_append.1 hy' with h1|h1
  ·rw [hd y' h1,Bool.not_true]
  ·rw [hdk y' h1,Bool.not_true]
 ·show (!zgt zs (mkS (zdA f cols y)))=true
  rw [hm,Bool.not_false]
theorem zdQ {l:Nat}(h1:l<6):Calls Tryz.prog 139 #[.int .i64 l] w fun e w'=>e=.returned (.string (zeo l))∧Ext w w':=zer h1
theorem zfC (h:Tch w A n B m B' m' s p L)(hT:TabAt w R nr C nc rows cols)(hI:zdz L (zy s p L) rows cols) :
  Calls Tryz.prog 217 #[.agg #[.bool false,.int .i64 0,.slice none 0 0,.slice none 0 0,.int .i64 s.al,.int .i64 s.st,.slice A n c,.int .i64 p.al,.slice B m d,.slice B' m' d',.int .i64 L],.agg #[.slice R nr cr,.slice C nc cc]] w fun e w'=>e=.returned (.tuple #[.string ((zbK L (zy s p L) rows cols).getD ⟨#[]⟩),.bool (zbK L (zy s p L) rows cols).isSome])∧Ext w w':=by
 obtain⟨e1,e2⟩:=hT.nr
 have hr12:=hI.r12;have hc20:=hI.c20
 rw [e1] at hr12
 rw [e2] at hc20
 have HA:=za (fun W (hW:Ext w W)=>zaO (c:=c) (d:=d) (d':=d') (h.ext hW))
 obtain⟨lo,hi,lo2,hi2,h1,h2⟩:=hT
 have HR:=za (fun W (hW:Ext w W)=>zdP (c:=c) (d:=d) (d':=d') (cc:=cc) (cr:=cr) (h.ext hW) (h2.ext hW) (h1.ext hW) (by omega) (by omega) hI.rsz'.2 hI.rsz'.1)
 have HW:=za (fun W (hW:Ext w W) (y:ByteArray) hy=>zeO (c:=c) (d:=d) (d':=d') (cc:=cc) (x:=y) (h.ext hW) (h2.ext hW) (by omega) hy hI.rsz'.2)
 have H1:=za (fun W (hW:Ext w W)=>h1.ext hW)
 have hL:=h.lt
 have Hin:=za (fun x hx=>hI.rin (x:=x) hx)
 have hlen:(zbL (zy s p L) cols rows).length=nr:=by rw [zbL,List.length_map];exact e1
 have hop:zbK L (zy s p L) rows cols=(candL L rows).find? fun x=>!zgt (zbL (zy s p L) cols rows) (mkS (zdA (zy s p L) cols x)):=rfl
 generalize zbK L (zy s p L) rows cols=op at *
 generalize zbL (zy s p L) cols rows=zs at *
 have Hop:=za hop
 have Hlen:=za hlen
 have He:=za e1
 have hx0:Ext w ((w.alloc (.cells #[.bool false,.int .i64 0,.slice none 0 0,.slice none 0 0,.int .i64 s.al,.int .i64 s.st,.slice A n c,.int .i64 p.al,.slice B m d,.slice B' m' d',.int .i64 L] 99)).alloc (.cells #[.slice R nr cr,.slice C nc cc] 102)):=((Ext.refl _).alloc _).alloc _
 obtain⟨b1,b2⟩:=zU (Ext.refl ((w.alloc (.cells #[.bool false,.int .i64 0,.slice none 0 0,.slice none 0 0,.int .i64 s.al,.int .i64 s.st,.slice A n c,.int .i64 p.al,.slice B m d,.slice B' m' d',.int .i64 L] 99)).alloc (.cells #[.slice R nr cr,.slice C nc cc] 102)))
 clear h h1 h2 hI e1 e2 hop hlen
 go_enter Tryz.func217,Tryz.ntmps217
 go_upto_region 1 with fail
 generalize (w.alloc (.cells #[.bool false,.int .i64 0,.slice none 0 0,.slice none 0 0,.int .i64 s.al,.int .i64 s.st,.slice A n c,.int .i64 p.al,.slice B m d,.slice B' m' d',.int .i64 L] 99)).alloc (.cells #[.slice R nr cr,.slice C nc cc] 102)=w1 at *
 have CB:=b1.cells
 have CT:=b2.cells
 have hww:=Ext.refl w1
 go_wp2_with (first
  |(go_at_call 134;refine (HA.out _ hx0).mono ?_;rintro e w2 ⟨rfl,hx2⟩)
  |(go_at_call 135;refine (zV L (by unfold Sm;omega) _).mono ?_;rintro e w3 ⟨HL,hc,rfl,hownL,hx3⟩;have hx13:=hx2.trans hx3)
  |(go_at_call 136;refine (HR.out _ (hx0.trans hx13)).mono ?_;rintro e w4 ⟨G,g,rfl,hownG,hx4⟩;have hx14:=hx13.trans hx4))
 have hrdG:=Reads.of_own hownG
 have HG:=za (fun W (hW:Ext w4 W)=>hrdG.ext hW)
 have hownL4:=zh hownL hx4
 have HLet:=za (fun W (hW:Ext w4 W)=>zh hownL4 hW)
 have hlm:=za (fun l (hl:l∈letters L 6)=>(zF.1 hl).1)
 have hcand:=za (show candL L rows=rows.flatMap fun r=>(letters L 6).map fun l=>r++zeo l from rfl)
 have hls:(letters L 6).length≤6:=zC L 6
 generalize letters L 6=ls at *
 clear hownL hownL4 hrdG hownG hx2 hx3 hx13 hx4 hww
 have hww:=Ext.refl w4
 go_loopw [8] (fun iv wr=>∃ i:Nat,i≤nr∧iv=.int .i64 i∧Hid (∀ x∈(rows.take i).flatMap (fun r=>ls.map fun l=>r++zeo l),zgt zs (mkS (zdA (zy s p L) cols x))=true)∧Ext w4 wr) (fun iv _=>nr - (intOf iv).toNat)
 case atStart=>exact⟨0,Nat.zero_le _,rfl,za (fun x hx=>by simp at hx),hww⟩
 case round =>
  clear hww
  obtain⟨i,hi,rfl,hdone,hxr⟩:=hrel
  have CTr:∀ W,Ext wr W→∀ q,W.cell? ⟨w.heap.size+1,q,none⟩=#[Value.slice R nr cr,.slice C nc cc][q]?:=fun W hW=>CT W (hx14.trans (hxr.trans hW))
  have hww:=Ext.refl wr
  by_cases hlt:i<nr
  ·have hlt':(i:Int)<(nr:Int):=by omega
   obtain⟨ad,x,rfl,_,_,hx,cx⟩:=(H1.out wr (hx0.trans (hx14.trans hxr))).str hlt
   have CX:∀ W,Ext wr W→W.cell? (ad.add i)=some (.string x):=fun W hW=>hW.cell_some cx
   have hxs:=(Hin.out x (List.mem_of_getElem? hx.out)).2
   have hxi:=za hx.out
   clear cx hx
   go_wp2_with fail
   obtain⟨wo,hwo⟩:∃ wo,wo=wr:=⟨_,rfl⟩
   subst hwo
   go_loopw [9] (fun kv wr=>∃ k:Nat,k≤ls.length∧kv=.int .i64 k∧Hid (∀ y∈(ls.take k).map (fun l=>x++zeo l),zgt zs (mkS (zdA (zy s p L) cols y))=true)∧Ext wo wr) (fun kv _=>ls.length - (intOf kv).toNat)
   case atStart=>exact⟨0,Nat.zero_le _,rfl,za (fun y hy=>by simp at hy),hww⟩
   case round =>
    clear hww
    obtain⟨k,hk,rfl,hdk,hxr2⟩:=hrel
    by_cases hkl:k<ls.length
    ·have hkl':(k:Int)<(ls.length:Int):=by omega
     obtain⟨l,hl⟩:∃ l,ls[k]?=some l:=⟨_,List.getElem?_eq_getElem hkl⟩
     have hl6:=hlm.out l (List.mem_of_getElem? hl)
     have zil:=HLet.out wr (hxr.trans hxr2)
     obtain⟨gl,rfl,hgl,-⟩:=zae zil (by omega)
     have cl:=zcu zil hkl
     rw [List.getD_eq_getElem?_getD,hl,Option.getD_some] at cl
     have CL:∀ W,Ext wr W→W.cell? ⟨gl,k,none⟩=some (.int .i64 (l:Nat)):=fun W hW=>hW.cell_some cl
     have CX2:∀ W,Ext wr W→W.cell? (ad.add i)=some (.string x):=fun W hW=>CX W (hxr2.trans hW)
     have CT2:∀ W,Ext wr W→∀ q,W.cell? ⟨w.heap.size+1,q,none⟩=#[Value.slice (some ad) nr cr,.slice C nc cc][q]?:=fun W hW=>CTr W (hxr2.trans hW)
     have CB2:∀ W,Ext wr W→∀ q,W.cell? ⟨w.heap.size,q,none⟩=#[Value.bool false,.int .i64 0,.slice none 0 0,.slice none 0 0,.int .i64 s.al,.int .i64 s.st,.slice A n c,.int .i64 p.al,.slice B m d,.slice B' m' d',.int .i64 L][q]?:=fun W hW=>CB W ((hx14.trans (hxr.trans hxr2)).trans hW)
     have HT:=za (fun W=>zdQ (w:=W) hl6)
     have Hl:=za hl
     obtain⟨z,hz⟩:∃ z,Hid (zeo l=z):=⟨_,rfl⟩
     rw [hz.out] at HT
     have hz1:z.size=1:=by rw [← hz.out];exact zdG l
     have hsz:¬ 9223372036854775807<x.size+1:=by omega
     have HWr:=za (fun W (hW:Ext wr W)=>HW.out W ((hx0.trans (hx14.trans (hxr.trans hxr2))).trans hW) (x++z) (by rw [ByteArray.size_append];omega))
     have HGr:=za (fun W (hW:Ext wr W)=>HG.out W ((hxr.trans hxr2).trans hW))
     have hww:=Ext.refl wr
     obtain⟨y,hy⟩:∃ y,x++z=y:=⟨_,rfl⟩
     rw [hy] at HWr
     have hyl:Hid (x++zeo l=y):=by unfold Hid;rw [hz.out];exact hy
     clear hl cl zil
     go_wp2_with fail
     go_region_held3 (fun W=>Ext wr W) (first|assumption|(refine Ext.drew ?_;assumption)|(refine Ext.trans ?_ (by assumption);assumption)|(refine Ext.trans ?_ (by assumption);refine Ext.drew ?_;assumption)) (first
      |(go_at_call 139;refine (HT.out _).mono ?_;rintro e w7 ⟨rfl,hx7⟩))
     have hx17:Ext wr w7:=by assumption
     clear hy
     cases hm:zgt zs (mkS (zdA (zy s p L) cols y))
     all_goals
      have Hm:=za hm
      clear hm
      go_wp2_with (first
       |(go_at_call 138;refine (HWr.out _ hx17).mono ?_;rintro e w8 ⟨rfl,hx8⟩;have hx18:=hx17.trans hx8)
       |(go_at_call 233;with_reducible refine (zcZ (HGr.out _ hx18)).mono ?_;rw [Hm.out];rintro e w9 ⟨rfl,rfl⟩))
     ·have hsome:=za (show op=some y by
       rw [Hop.out,hcand.out]
       exact open_find hxi.out Hl.out hyl.out hdone.out hdk.out Hm.out)
      go_ret2
      exact⟨by rw [hsome.out];rfl,hx0.trans (hx14.trans (hxr.trans (hxr2.trans hx18)))⟩
     ·go_roundw
      case rel=>exact⟨k+1,by omega,by go_num,za (fun y' hy'=>by
       rw [List.take_add_one,Hl.out,List.map_append] at hy'
       rcases List.mem_append.1 hy' with h1|h1
       ·exact hdk.out y' h1
       ·simp at h1
        rw [h1,hyl.out]
        exact Hm.out),hxr2.trans hx18⟩
      case measure=>simp [intOf];omega
    ·have hge:(ls.length:Int)≤(k:Int):=by omega
     go_wp2_with fail
     go_roundw
     case rel=>exact⟨i+1,by omega,by go_num,za (fun y hy=>by
      rw [List.take_add_one,hxi.out,List.flatMap_append] at hy
      rcases List.mem_append.1 hy with h1|h1
      ·exact hdone.out y h1
      ·refine hdk.out y ?_
       rw [List.take_of_length_le (by omega)]
       simpa using h1),hxr.trans hxr2⟩
     case measure=>simp [intOf];omega
  ·have hge:(nr:Int)≤(i:Int):=by omega
   have hno:=za (show op=none by
    rw [Hop.out,hcand.out,List.find?_eq_none]
    intro y hy
    have:=hdone.out y (by rw [List.take_of_length_le (by have:=He.out;omega)];exact hy)
    rw [this];decide)
   go_wp2_with fail
   go_ret2
   exact⟨by rw [hno.out];rfl,hx0.trans (hx14.trans hxr)⟩
end
end Go.Proofs.YtmjaepibdpfblaaGreatDoor
