/- The reference's l2Rank, l2Keep with all states, and TaskOf, walked. | Plain: assumptions are sound; what certificates and chains without a fault prove. | Plain: what certificates and chains without a fault prove: the conclusions of the laws on them. | The reference's l9Start, l9Move, l9Bad, walked. | The reference's l9Bad, TaskValid, SafeWord and AskTeacher, walked. | The reference's TeacherAlphabet, AskTeacher, l10In, l10Row, l10Rows, l10Word, walked at the teacher of a task. | The reference's l10Rows, l10Word, walked. | Tables that tell words apart, in plain terms. No program in sight. | -/
import Derived.Test.YtndhahednhnnbaaGreatDoorG10
import Derived.Test.YtndhahednhnnbaaGreatDoorG03
import Derived.Test.YtndhahednhnnbaaGreatDoorG09
import Derived.Test.YtndhahednhnnbaaGreatDoorG07
import Derived.Test.YtndhahednhnnbaaGreatDoorG02
import Derived.Test.YtndhahednhnnbaaGreatDoorG01
namespace Go.Proofs.YtndhahednhnnbaaGreatDoor
open Go Go.RowKit
set_option maxHeartbeats 2000000
theorem spec_l2Rank {p k:Nat} {w:World}(hp:p≤16)(hk:k≤p) :
  Calls Tryz.prog 223 #[.int .i64 (2 ^ p - 1:Nat),.int .i64 k] w fun e w'=>e=.returned (.int .i64 (k:Nat))∧w=w':=by
 have hF:2 ^ p - 1<65536:=by have:=Nat.pow_le_pow_right (show 1≤2 by omega) hp;have:(2:Nat) ^ 16=65536:=rfl;omega
 have HB:=hide (fun i (hi:i<p)=>show (2 ^ p - 1).testBit i=true by rw [Nat.testBit_two_pow_sub_one];simpa using hi)
 generalize 2 ^ p - 1=F at *
 go_enter Tryz.func223,Tryz.ntmps223
 go_wp2_with fail
 go_loop [5,6] (fun v iv=>∃ i:Nat,iv=.int .i64 i∧i≤k∧v=.int .i64 i) (fun _ iv=>k - (intOf iv).toNat)
 case atStart=>exact⟨0,rfl,Nat.zero_le _,rfl⟩
 case round =>
  obtain⟨i,rfl,hi,rfl⟩:=hrel
  by_cases hlt:i<k
  ·have hlt':(i:Int)<(k:Int):=by omega
   have Hb:=hide (HB.out i (by omega))
   go_wp2_with (go_at_call 147;refine (zal F i (by unfold Sm;omega) _ (by omega)).mono ?_;rw [Hb.out];rintro e w' ⟨rfl,rfl⟩)
   go_round
   case rel=>exact⟨i+1,by go_num,by omega,by go_num⟩
   case measure=>simp [intOf];omega
  ·obtain rfl:i=k:=by omega
   go_wp2_with fail
   go_ret
   exact⟨rfl,rfl⟩
section
variable {w W:World} {lo hi n c m d m' d':Nat} {A B B':Option Addr} {s:Sys} {p:Aut}
theorem yG11a2 {P:Prop}(h:P:=by
 (refine za rfl rfl rfl rfl (fun K hK=>?_))
 go_simp
 refine hK.out _ _ ?_
 refine zd ?_
 go_wp2_with fail
 go_meet
 obtain⟨w1,h1,h2⟩:=Hfin.out
 exact⟨w1,rfl,h1,h2⟩
 ):P:=h
set_option maxRecDepth 100000 in
theorem spec_l2Keep {P:Nat}(h:zO w lo hi A n s)(hv:zk s=true)(hP:s.st=(P:Int))(hn:n≤1000000)(hhi:hi≤w.heap.size) :
  Calls Tryz.prog 221 #[.agg #[.int .i64 s.al,.int .i64 s.st,.slice A n c],.int .i64 (2 ^ P - 1:Nat)] w (RetSys w s):=by
 have hsm:=zcw hv
 obtain⟨hs1,hs2,hf,-⟩:=hsm
 have hP16:P≤16:=by omega
 have hPn:s.st.toNat=P:=by omega
 rw [hPn] at hf
 have Hf:=hide hf
 have HS:=hide (fun W (hW:Ext w W)=>h.ext hW)
 have hl:=hide h.1
 have HPe:=hide hP
 have hF:2 ^ P - 1<65536:=by have:=Nat.pow_le_pow_right (show 1≤2 by omega) hP16;have:(2:Nat) ^ 16=65536:=rfl;omega
 have HRk:=hide (fun k W (hk:k≤P)=>spec_l2Rank (w:=W) hP16 hk)
 have HB:=hide (fun i (hi:i<P)=>show (2 ^ P - 1).testBit i=true by rw [Nat.testBit_two_pow_sub_one];simpa using hi)
 rw [hP]
 generalize 2 ^ P - 1=F at *
 have hx0:Ext w ((w.alloc (.cells #[.int .i64 s.al,.int .i64 (P:Nat),.slice A n c] 39)).alloc (.cells #[.int .i64 0,.int .i64 0,.slice none 0 0] 39)):=((Ext.refl _).alloc _).alloc _
 obtain⟨b1,b2⟩:=zV (Ext.refl ((w.alloc (.cells #[.int .i64 s.al,.int .i64 (P:Nat),.slice A n c] 39)).alloc (.cells #[.int .i64 0,.int .i64 0,.slice none 0 0] 39)))
 clear h hv hP hs1 hs2 hf hPn
 go_enter Tryz.func221,Tryz.ntmps221
 go_upto_region 1 with fail
 generalize (w.alloc (.cells #[.int .i64 s.al,.int .i64 (P:Nat),.slice A n c] 39)).alloc (.cells #[.int .i64 0,.int .i64 0,.slice none 0 0] 39)=w0 at *
 have CB:=b1.cells
 have hww:=Ext.refl w0
 have hb2:=b2.lt
 have hRP:=hide (fun W=>HRk.out P W (Nat.le_refl _))
 have hww1:=hww.drew
 have hxb:=(Ext.refl w0.drew).alloc (.cells #[.int .i64 0,.int .i64 0,.slice none 0 0] 39)
 have bG:=Blk.new w0.drew 39 #[.int .i64 0,.int .i64 0,.slice none 0 0]
 go_cut [5] (fun v wx=>∃ w1,v=.pointer (some ⟨w0.heap.size,0,none⟩)∧Ext w0 w1∧Gr2 w1 wx w0.heap.size s.al (P:Nat) (.slice none 0 0) [])
 case first =>
  have hfin:∃ w1,Ext w0 w1∧Gr2 w1 (w0.alloc (.cells #[.int .i64 s.al,.int .i64 (P:Nat),.slice none 0 0] 39)).drew w0.heap.size s.al (P:Nat) (.slice none 0 0) []:=
   ⟨(w0.alloc (.cells #[.int .i64 s.al,.int .i64 (P:Nat),.slice none 0 0] 39)).drew,((Ext.refl _).alloc _).drew,Blk.new w0 _ _,World.ownsRow_nil _ _ _ _,Frm.refl _ _,by simp⟩
  have Hfin:=hide hfin
  have cG:=bG.cell
  have fG:=bG.frozen
  rw [show w0.drew.heap.size=w0.heap.size from rfl] at cG fG
  clear hfin
  refine uR (fun X=>Ext w0 X) [8] (OrdU.app [0,1,2,3,4] (OrdU.two 5 (OrdU.of [6,7,8]) 7 (OrdU.of [5,6,8]))) ?_
  refine uQ ?_
  refine zl rfl rfl rfl rfl (fun K hK=>?_) (fun K hK=>?_)
  ·go_simp
   refine (hRP.out _).mono ?_
   rintro e w' ⟨rfl,rfl⟩
   refine hK.out _ _ hww1 ?_
   refine pT ?_
   refine uQ ?_
   (refine zb rfl rfl rfl (fun K hK=>?_);go_simp)
   refine hK.out _ _ (hww1.alloc _) ?_
   refine pT ?_
   exact yG11a2
  ·go_simp
   refine hK.out _ _ (hww1.alloc _) ?_
   refine pT ?_
   (refine zb rfl rfl rfl (fun K hK=>?_);go_simp)
   refine (hRP.out _).mono ?_
   rintro e w' ⟨rfl,rfl⟩
   refine hK.out _ _ (hww1.alloc _) ?_
   refine pT ?_
   refine uQ ?_
   exact yG11a2
 case rest =>
  obtain⟨w1,rfl,hx01,hgr⟩:=hcut
  have HSw:=hide (fun W (hW:Ext w1 W)=>HS.out W (hx0.trans (hx01.trans hW)))
  have CB1:∀ W,Frm (fun k=>k=w0.heap.size) w1 W→∀ q,W.cell? ⟨w.heap.size,q,none⟩=#[Value.int .i64 s.al,.int .i64 (P:Nat),.slice A n c][q]?:=fun W hW=>((b1.ext hx01).frm hW (by omega)).cell
  have hs01:=hx01.size
  clear hxb bG hww1 CB hww
  go_wp2_with fail
  go_loopw [6] (fun iv wr=>∃ (k:Nat) (v:Value),iv=.int .i64 k∧k≤n∧Gr2 w1 wr w0.heap.size s.al (P:Nat) v (s.edges.take k)) (fun iv _=>n - (intOf iv).toNat)
  case atStart=>exact⟨0,_,rfl,Nat.zero_le _,hgr⟩
  case round =>
   clear hgr
   obtain⟨k,v,rfl,hk,hgr⟩:=hrel
   have k1:=CB1 wr hgr.fr
   by_cases hlt:k<n
   ·have hlt':(k:Int)<(n:Int):=by omega
    have hSr:=(HSw.out w1 (Ext.refl _)).frm hgr.fr (fun k h1 h2 e=>by have:=hx0.size;omega)
    obtain⟨g,o,x,rfl,hglo,hghi,hx,c0,c1,c2⟩:=hSr.2.edge hlt
    obtain⟨⟨f0,f1⟩,⟨l0,l1⟩,t0,t1⟩:=Hf.out x (List.mem_of_getElem? hx.out)
    obtain⟨fr,hfr⟩:∃ fr:Nat,Hid (x.fr=fr):=⟨x.fr.toNat,by unfold Hid;omega⟩
    obtain⟨to_,hto⟩:∃ to_:Nat,Hid (x.ta=to_):=⟨x.ta.toNat,by unfold Hid;omega⟩
    have hfrP:fr<P:=by have:=hfr.out;omega
    have htoP:to_<P:=by have:=hto.out;omega
    rw [hfr.out] at c0
    rw [hto.out] at c2
    have hR1:=hide (fun W=>HRk.out fr W (by omega))
    have hR2:=hide (fun W=>HRk.out to_ W (by omega))
    have hB1:=hide (HB.out fr hfrP)
    have hB2:=hide (HB.out to_ htoP)
    have hxe:=(Ext.refl wr).alloc (.cells #[.int .i64 fr,.int .i64 x.le,.int .i64 to_] 126)
    have be:=Blk.new wr 126 #[.int .i64 fr,.int .i64 x.le,.int .i64 to_]
    have hgr2:=hgr.ext_ hxe
    have hk1:=hide hgr.fr.size
    have hst:=hide (show zo (s.edges.take (k+1))=zo (s.edges.take k)++[.int .i64 fr,.int .i64 x.le,.int .i64 to_] by
     rw [List.take_add_one,hx.out,Option.toList_some,zbZ,← hfr.out,← hto.out];rfl)
    have hlt2:=hide (show (s.edges.take k).length=k by rw [List.length_take];have:=hl.out;omega)
    clear f0 f1 t0 t1 hgr
    go_upto_region 6 with fail
    generalize hge:wr.heap.size=ge at *
    have HGe:=hide hge
    clear hge
    generalize wr.alloc (.cells #[.int .i64 fr,.int .i64 x.le,.int .i64 to_] 126)=w2 at *
    have ce:=be.cell
    go_wp2_with (first
     |(go_at_call 147;with_reducible refine (zal F fr (by unfold Sm;omega) _ (by omega)).mono ?_;rw [hB1.out];rintro e w' ⟨rfl,rfl⟩)
     |(go_at_call 147;with_reducible refine (zal F to_ (by unfold Sm;omega) _ (by omega)).mono ?_;rw [hB2.out];rintro e w' ⟨rfl,rfl⟩))
    have CE:=be.cells
    have CG:∀ W,Ext w2 W→∀ q,W.cell? ⟨w0.heap.size,q,none⟩=#[Value.int .i64 s.al,.int .i64 (P:Nat),v][q]?:=fun W hW=>(hgr2.blk.ext hW).cell
    have hww:=Ext.refl w2
    clear ce
    refine uR (fun X=>Ext w2 X) [14,16] (OrdU.of [0,1,2,3,4,6,7,8,9,10,5,11,12,13,14,15,16]) ?_
    refine uQ ?_
    have hxd:=hww.drew
    (refine zb rfl rfl rfl (fun K hK=>?_);go_simp)
    refine (hR1.out _).mono ?_
    rintro e w' ⟨rfl,rfl⟩
    refine hK.out _ _ hxd ?_
    refine pT ?_
    refine uQ ?_
    (refine zb rfl rfl rfl (fun K hK=>?_);go_simp)
    refine (hR2.out _).mono ?_
    rintro e w' ⟨rfl,rfl⟩
    refine hK.out _ _ hxd ?_
    refine pT ?_
    refine uQ ?_
    (refine zb rfl rfl rfl (fun K hK=>?_);go_simp)
    refine hK.out _ _ (hxd.alloc _) ?_
    refine pT ?_
    (refine za rfl rfl rfl rfl (fun K hK=>?_))
    have hgr3:=hgr2.ext_ hxd
    have hown3:=hgr3.own
    rw [hlt2.out] at hown3
    refine zaQ w1 w2.drew _ _ _ rfl 126 _ 3 24 Tryz.underlying37 zbd rfl (by decide) v k (zo (s.edges.take k)) _ _ rfl rfl hgr3.fr.size hown3 rfl (by simp [Value.oneCell']) (by unfold maxLen;omega) (by omega) ?_
    intro g8 cap8 w8 hown8 hg8 hat8 hlt8
    refine hK.out _ _ ?_
    refine pT ?_
    refine uQ ?_
    obtain⟨p1,p2,p3⟩:=hgr3.push (e:=⟨fr,x.le,to_⟩) (W':=w8) (by rw [hlt2.out];exact hown8) hg8
    have p1':=p1.out
    have heq:=hide (show s.edges.take k++[⟨fr,x.le,to_⟩]=s.edges.take (k+1) by
     rw [List.take_add_one,hx.out,Option.toList_some,← hfr.out,← hto.out])
    rw [heq.out,hlt2.out] at p3
    (refine za rfl rfl rfl rfl (fun K hK=>?_))
    go_simp
    refine hK.out _ _ ?_
    refine zd ?_
    clear hown8 hg8 hat8 hown3 p1 hgr3
    generalize w8.setCell ⟨w0.heap.size,2,none⟩ (.slice (some ⟨g8,0,none⟩) (k+1) cap8)=w10 at *
    go_wp2_with fail
    go_roundw
    case rel=>exact⟨k+1,_,by go_num,by omega,p3⟩
    case measure=>simp [intOf];omega
   ·obtain rfl:k=n:=by omega
    rw [List.take_of_length_le (by have:=hl.out;omega)] at hgr
    have hown:=hgr.own
    rw [← hl.out] at hown
    obtain⟨A1,c1,rfl⟩:=zh hown
    have bz:=(b2.ext hx01).frm hgr.fr (by omega)
    have kz:=bz.cell
    have fz:=bz.frozen
    have kG:=hgr.blk.cell
    have hf:=zaE wr (w.heap.size+1) (.int .i64 s.al) (.int .i64 (P:Nat)) (.slice A1 k c1)
    have cf:=(zaF bz rfl (.int .i64 s.al) (.int .i64 (P:Nat)) (.slice A1 k c1)).cell
    have hxw:Ext w wr:=(hx0.trans hx01).frm hgr.fr (fun k hk e=>by have:=hx0.size;omega)
    have hret:=hide (show RetSys w s (.returned (.agg #[.int .i64 s.al,.int .i64 (P:Nat),.slice A1 k c1])) (((wr.setCell ⟨w.heap.size+1,0,none⟩ (.int .i64 s.al)).setCell ⟨w.heap.size+1,1,none⟩ (.int .i64 (P:Nat))).setCell ⟨w.heap.size+1,2,none⟩ (.slice A1 k c1)) from
     ⟨A1,k,c1,by rw [HPe.out],⟨hl.out,zn (ze hown hf (fun b hv e=>zr hown bz (by decide) hv e)) (hx0.trans hx01).size⟩,hxw.frm hf (fun k hk e=>by omega)⟩)
    clear hf hown
    go_wp2_with fail
    exact bodyPost_ret (v:=.agg #[.int .i64 s.al,.int .i64 (P:Nat),.slice A1 k c1]) (by simp [results,Tryz.results221,go_sem,cf]) rfl hret.out
end
set_option maxHeartbeats 2000000
theorem zcA {p:Aut} {f:Nat→Bool} {ls:List Nat}:∀ {q:Nat},(∀ l∈ls,p.al.toNat.testBit l=true→f l=true)→runA p q (ls.filter f)=runA p q ls:=by
 induction ls with
 |nil=>intro q _;rfl
 |cons l r ih =>
  intro q h
  have ih:=fun {q}=>ih (q:=q) (fun k hk=>h k (List.mem_cons_of_mem _ hk))
  rw [List.filter_cons]
  show _=runA p (aGo p q l) r
  cases hf:f l
  ·have e:aGo p q l=q:=by
    unfold aGo
    rw [if_neg]
    intro hb
    have:=h l List.mem_cons_self hb
    rw [hf] at this;cases this
   rw [e];simpa using ih
  ·simp only [if_true]
   exact ih
theorem goes_filter {s:Sys} {f:Nat→Bool}:∀ (n:Nat) (v:List Nat),v.length=n→(∀ l∈v,s.al.toNat.testBit l=true→f l=true)→∀ q,Goes (cho s) [0] (v.filter f) q↔Goes (cho s) [0] v q:=by
 intro n
 induction n with
 |zero =>
  intro v hl _ q
  obtain rfl:=List.eq_nil_of_length_eq_zero hl
  exact Iff.rfl
 |succ n ih =>
  intro v hl h q
  rcases zZ v with rfl|⟨u,l,rfl⟩
  ·simp at hl
  have ih:=ih u (by simpa using hl) (fun k hk=>h k (by simp [hk]))
  rw [List.filter_append]
  cases hf:f l
  ·have hb:s.al.toNat.testBit l=false:=by
    rw [Bool.eq_false_iff]
    intro hb
    have:=h l (by simp) hb
    rw [hf] at this;cases this
   rw [show List.filter f [l]=[] by simp [hf],List.append_nil,ih]
   constructor
   ·intro h1
    exact .snoc h1 (by unfold cho;rw [hb];simp)
   ·intro h1
    obtain⟨m,h2,h3⟩:=h1.inv
    unfold cho at h3
    rw [hb] at h3
    simp at h3
    rw [h3]
    exact h2
  ·rw [show List.filter f [l]=[l] by simp [hf]]
   constructor
   ·intro h1
    obtain⟨m,h2,h3⟩:=h1.inv
    exact .snoc ((ih m).1 h2) h3
   ·intro h1
    obtain⟨m,h2,h3⟩:=h1.inv
    exact .snoc ((ih m).2 h2) h3
theorem zed {s:Sys} {f:Nat→Bool} {v:List Nat}(h:∀ l∈v,s.al.toNat.testBit l=true→f l=true):Runs s (v.filter f)↔Runs s v:=exists_congr fun q=>goes_filter _ v rfl h q
theorem zfX (ss:List Sys) (l:Nat):(zD ss).testBit l=true↔∃ s∈ss,s.al.toNat.testBit l=true:=by
 have key:∀ (ss:List Sys) (u:Nat),(ss.foldl (fun a s=>a|||s.al.toNat) u).testBit l=true↔u.testBit l=true∨∃ s∈ss,s.al.toNat.testBit l=true:=by
  intro ss
  induction ss with
  |nil=>intro u;simp
  |cons s r ih =>
   intro u
   rw [List.foldl_cons,ih,Nat.testBit_or,Bool.or_eq_true]
   simp [or_assoc]
 have:=key ss 0
 simpa [zD] using this
def Over (A:Nat) (v:List Nat):Prop:=∀ l∈v,l<6∧A.testBit l=true
theorem zfO {A:Nat} {v:List Nat}:(∀ l∈v,l∈letters A 6)↔Over A v:=by unfold Over;simp only [zJ]
theorem keepsU_iff {s:Sys} {a p:Aut}:zbm s a p=true↔(zk s=true∧zf a=true∧zf p=true)∧∀ v,Over (s.al.toNat|||a.al.toNat) v→Runs s v→accB a (runA a 0 v)=true→accB p (runA p 0 v)=true:=by
 unfold zbm zcp
 simp only [Bool.and_eq_true,Bool.not_eq_true']
 constructor
 ·rintro ⟨⟨h1,h2,h3⟩,h4⟩
  refine⟨⟨h1,h2,h3⟩,fun v hv hr ha=>?_⟩
  cases hb:accB p (runA p 0 v)
  ·have:=(zhg (ss:=[s]) (by simpa using h1) h2 h3).2 ⟨v,zfO.2 (by simpa [zD] using hv),by simpa using hr,ha,hb⟩
   rw [h4] at this;cases this
  ·rfl
 ·rintro ⟨⟨h1,h2,h3⟩,h4⟩
  refine⟨⟨h1,h2,h3⟩,?_⟩
  rw [Bool.eq_false_iff]
  intro hv
  obtain⟨v,hv,hr,ha,hb⟩:=(zhg (ss:=[s]) (by simpa using h1) h2 h3).1 hv
  have:=h4 v (by have:=zfO.1 hv;simpa [zD] using this) (hr s (by simp)) ha
  rw [hb] at this;cases this
theorem runA_free (q:Nat) (v:List Nat):runA free q v=q:=by
 induction v generalizing q with
 |nil=>rfl
 |cons l r ih =>
  show runA free (aGo free q l) r=q
  rw [show aGo free q l=q by simp [aGo,free],ih]
theorem zcB {ss:List Sys} {p:Aut}:zaP ss p=true↔(zw ss=true∧zf p=true)∧∀ v,Over (zD ss) v→(∀ s∈ss,Runs s v)→accB p (runA p 0 v)=true:=by
 unfold zaP zcH
 simp only [Bool.and_eq_true,Bool.not_eq_true']
 have hf:∀ v,accB free (runA free 0 v)=true:=fun v=>by rw [runA_free];rfl
 have hU:zD ss|||free.al.toNat=zD ss:=by simp [free]
 constructor
 ·rintro ⟨⟨h1,h2⟩,h4⟩
  refine⟨⟨h1,h2⟩,fun v hv hr=>?_⟩
  cases hb:accB p (runA p 0 v)
  ·have:=(zhg (a:=free) (zaH h1).2 zdA h2).2 ⟨v,zfO.2 (by rw [hU];exact hv),hr,hf v,hb⟩
   rw [h4] at this;cases this
  ·rfl
 ·rintro ⟨⟨h1,h2⟩,h4⟩
  refine⟨⟨h1,h2⟩,?_⟩
  rw [Bool.eq_false_iff]
  intro hv
  obtain⟨v,hv,hr,ha,hb⟩:=(zhg (a:=free) (zaH h1).2 zdA h2).1 hv
  have:=h4 v (by rw [hU] at hv;exact zfO.1 hv) hr
  rw [hb] at this;cases this
theorem ag_sound {s:Sys} {ts:List Sys} {a p:Aut}(hu:zbm s a p=true)(hk:zaP ts a=true)(hl:a.al.toNat=(s.al.toNat|||p.al.toNat)&&&zD ts)(hp:zw (s :: ts)=true):zaP (s :: ts) p=true:=by
 obtain⟨⟨h1,h2,h3⟩,h4⟩:=keepsU_iff.1 hu
 obtain⟨⟨h5,h6⟩,h7⟩:=zcB.1 hk
 refine zcB.2 ⟨⟨hp,h3⟩,fun v hv hr=>?_⟩
 have hbit:∀ l,a.al.toNat.testBit l=true↔(s.al.toNat.testBit l=true∨p.al.toNat.testBit l=true)∧(zD ts).testBit l=true:=by
  intro l
  rw [hl,Nat.testBit_and,Nat.testBit_or,Bool.and_eq_true,Bool.or_eq_true]
 have hv1:Over (s.al.toNat|||a.al.toNat) (v.filter fun l=>(s.al.toNat|||a.al.toNat).testBit l):=fun l hl=>by
  obtain⟨h8,h9⟩:=List.mem_filter.1 hl
  exact⟨(hv l h8).1,h9⟩
 have hv2:Over (zD ts) (v.filter fun l=>(zD ts).testBit l):=fun l hl=>by
  obtain⟨h8,h9⟩:=List.mem_filter.1 hl
  exact⟨(hv l h8).1,h9⟩
 have hb1:∀ l,s.al.toNat.testBit l=true→(s.al.toNat|||a.al.toNat).testBit l=true:=fun l h=>by rw [Nat.testBit_or,h];rfl
 have hb2:∀ l,a.al.toNat.testBit l=true→(s.al.toNat|||a.al.toNat).testBit l=true:=fun l h=>by rw [Nat.testBit_or,h,Bool.or_true]
 have r1:=(zed (fun l _ h=>hb1 l h)).2 (hr s List.mem_cons_self)
 have r2:∀ t∈ts,Runs t (v.filter fun l=>(zD ts).testBit l):=fun t ht=>(zed (fun l _ h=>(zfX ts l).2 ⟨t,ht,h⟩)).2 (hr t (List.mem_cons_of_mem _ ht))
 have e1:=h7 _ hv2 r2
 rw [zcA (fun l _ h=>((hbit l).1 h).2)] at e1
 have e2:=h4 _ hv1 r1
 rw [zcA (fun l _ h=>hb2 l h),zcA (fun l hl h=>?_)] at e2
 ·exact e2 e1
 ·cases hs:s.al.toNat.testBit l
  ·refine hb2 l ((hbit l).2 ⟨.inr h,?_⟩)
   obtain⟨u,hu1,hu2⟩:=(zfX _ l).1 (hv l hl).2
   rcases List.mem_cons.1 hu1 with rfl|hu1
   ·rw [hs] at hu2;cases hu2
   ·exact (zfX ts l).2 ⟨u,hu1,hu2⟩
  ·exact hb1 l hs
theorem runB_goes {s:Sys} {p:Nat}(hf:Few p s.edges)(hp:p≤16):∀ (n:Nat) (v:List Nat),v.length=n→(∀ l∈v,s.al.toNat.testBit l=true)→∀ q,(runB s.edges 1 v).testBit q=true↔Goes (cho s) [0] v q:=by
 intro n
 induction n with
 |zero =>
  intro v hl _ q
  obtain rfl:=List.eq_nil_of_length_eq_zero hl
  constructor
  ·intro h
   refine .nil ?_
   cases q with
   |zero=>simp
   |succ q =>
    exfalso
    have h1:(1:Nat).testBit (q+1)=true:=h
    rw [Nat.testBit_succ] at h1
    simp at h1
  ·intro h
   have:=h.inv_nil
   simp at this
   subst this
   show (1:Nat).testBit 0=true
   decide
 |succ n ih =>
  intro v hl h q
  rcases zZ v with rfl|⟨u,l,rfl⟩
  ·simp at hl
  have ih:=ih u (by simpa using hl) (fun k hk=>h k (by simp [hk]))
  rw [zeH,zcT]
  have hb:=h l (by simp)
  constructor
  ·rintro ⟨e,he,⟨h1,h2⟩,rfl⟩
   have hfe:=hf e he
   refine .snoc ((ih _).1 h2) ?_
   unfold cho
   rw [if_pos hb]
   refine zJ.2 ⟨by omega,(zch _ _ _ _).2 ⟨e,he,⟨by omega,h1⟩,rfl⟩⟩
  ·intro h1
   obtain⟨m,h2,h3⟩:=h1.inv
   unfold cho at h3
   rw [if_pos hb] at h3
   obtain⟨e,he,⟨h4,h5⟩,h6⟩:=(zch _ _ _ _).1 (zJ.1 h3).2
   exact⟨e,he,⟨h5,by rw [h4];simpa using (ih m).2 h2⟩,h6⟩
theorem bits_some {x:Nat}:(x != 0)=true↔∃ q,x.testBit q=true:=by
 rw [bne_iff_ne]
 constructor
 ·intro h
  apply Classical.byContradiction
  intro hn
  refine h (Nat.eq_of_testBit_eq fun q=>?_)
  rw [Nat.zero_testBit,Bool.eq_false_iff]
  exact fun hq=>hn ⟨q,hq⟩
 ·rintro ⟨q,hq⟩ rfl
  rw [Nat.zero_testBit] at hq;cases hq
theorem aft_runs {s:Sys} {x:ByteArray}(hv:zk s=true)(hw:zaS x=true):(aftB s (zba x s.al.toNat) != 0)=true↔Runs s (wl x):=by
 obtain⟨p,_,_,hp2,hf⟩:=zbF hv
 unfold aftB
 rw [hv,zeu hw,Bool.and_self,if_pos rfl,wl_restB hw,bits_some]
 refine Iff.trans ?_ (zed (f:=fun l=>s.al.toNat.testBit l) (fun l _ h=>h))
 exact exists_congr fun q=>runB_goes hf hp2 _ _ rfl (fun l hl=>by simpa using (List.mem_filter.1 hl).2) q
theorem top_iff {ss:List Sys} {x:ByteArray}:topB ss x=true↔zw ss=true∧zaS x=true∧Over (zD ss) (wl x)∧∀ s∈ss,Runs s (wl x):=by
 unfold topB
 simp only [Bool.and_eq_true,List.all_eq_true]
 constructor
 ·rintro ⟨h1,h2,h3⟩
  have hw:=zaL h2
  refine⟨h1,hw,fun l hl=>⟨zhi hw l hl,?_⟩,fun s hs=>(aft_runs ((zaH h1).2 s hs) hw).1 (h3 s hs)⟩
  have h4:=(inB_iff.1 h2).2
  have h5:=(zfU (wl x) l).2 hl
  rw [← h4,Nat.testBit_and,Bool.and_eq_true] at h5
  exact h5.2
 ·rintro ⟨h1,h2,h3,h4⟩
  refine⟨h1,inB_iff.2 ⟨h2,Nat.eq_of_testBit_eq fun k=>?_⟩,fun s hs=>(aft_runs ((zaH h1).2 s hs) h2).2 (h4 s hs)⟩
  rw [Nat.testBit_and]
  cases hk:(alB (wl x)).testBit k
  ·rfl
  ·rw [(h3 k ((zfU _ k).1 hk)).2];rfl
theorem top_breaks {ss:List Sys} {p:Aut} {x:ByteArray}(h:topB ss x=true)(hb:zce p x=true):zaP ss p=false:=by
 obtain⟨h1,h2,h3,h4⟩:=top_iff.1 h
 rw [Bool.eq_false_iff]
 intro hk
 have:=(zcB.1 hk).2 _ h3 h4
 unfold zce at hb
 simp only [Bool.and_eq_true,Bool.not_eq_true'] at hb
 rw [hb.2.2] at this
 cases this
set_option maxHeartbeats 2000000
theorem parts_mk {ss:List Sys}(h1:1≤ss.length)(h3:ss.length≤3)(hv:∀ s∈ss,zk s=true):zw ss=true:=by
 unfold zw
 simp only [Bool.and_eq_true,decide_eq_true_eq,List.all_eq_true]
 exact⟨h1,h3,hv⟩
theorem fault_zero {ss:List Sys} {p f g:Aut}:faultN ss p f g=0↔∃ x y z,ss=[x,y,z]∧three ss p=true∧zf f=true∧zf g=true∧f.al=chain1 ss p∧g.al=chain2 ss p∧zbm x f p=true∧zbm y g f=true∧zaP [z] g=true:=by
 constructor
 ·intro h
  unfold faultN at h
  by_cases h1:(three ss p&&(zf f&&zf g))=false
  ·rw [if_pos h1] at h;omega
  rw [if_neg h1] at h
  by_cases h2:(decide (f.al=chain1 ss p)&&decide (g.al=chain2 ss p))=false
  ·rw [if_pos h2] at h;omega
  rw [if_neg h2] at h
  simp only [Bool.not_eq_false,Bool.and_eq_true,decide_eq_true_eq] at h1 h2
  obtain⟨x,y,z,rfl⟩:=three_list h1.1
  dsimp only at h
  by_cases h3:(zbm x f p&&zbm y g f)=false
  ·rw [if_pos h3] at h;omega
  rw [if_neg h3] at h
  by_cases h4:zaP [z] g=false
  ·rw [if_pos h4] at h;omega
  simp only [Bool.not_eq_false,Bool.and_eq_true] at h3 h4
  exact⟨x,y,z,rfl,h1.1,h1.2.1,h1.2.2,h2.1,h2.2,h3.1,h3.2,h4⟩
 ·rintro ⟨x,y,z,rfl,h1,h2,h3,h4,h5,h6,h7,h8⟩
  unfold faultN
  rw [if_neg (by rw [h1,h2,h3];decide),if_neg (by rw [decide_eq_true h4,decide_eq_true h5];decide)]
  dsimp only
  rw [if_neg (by rw [h6,h7];decide),if_neg (by rw [h8];decide)]
theorem zds {s t:Sys} {p:Aut}(hs:zk s=true)(hp:zf p=true)(ht:zk t=true):iface s p t=(((s.al.toNat|||p.al.toNat)&&&t.al.toNat:Nat):Int):=by
 unfold iface
 rw [hs,hp,ht];rfl
theorem zcV {s t:Sys} {p a:Aut}:zav s t p a=0↔0≤iface s p t∧zf a=true∧a.al=iface s p t∧zbm s a p=true∧zaP [t] a=true:=by
 unfold zav
 constructor
 ·intro h
  by_cases h1:iface s p t<0∨zf a=false
  ·rw [if_pos h1] at h;omega
  rw [if_neg h1] at h
  by_cases h2:a.al≠iface s p t
  ·rw [if_pos h2] at h;omega
  rw [if_neg h2] at h
  by_cases h3:zbm s a p=false
  ·rw [if_pos h3] at h;omega
  rw [if_neg h3] at h
  by_cases h4:zaP [t] a=false
  ·rw [if_pos h4] at h;omega
  simp only [Bool.not_eq_false] at h3 h4
  refine⟨?_,?_,Classical.not_not.1 h2,h3,h4⟩
  ·apply Classical.byContradiction;intro hn;exact h1 (.inl (by omega))
  ·cases hb:zf a
   ·exact absurd (.inr hb) h1
   ·rfl
 ·rintro ⟨h1,h2,h3,h4,h5⟩
  rw [if_neg (by rintro (h|h);omega;rw [h2] at h;cases h),if_neg (by intro h;exact h h3),if_neg (by rw [h4];decide),if_neg (by rw [h5];decide)]
theorem zcG {s t:Sys} {p:Aut}(h:0≤iface s p t):zk s=true∧zf p=true∧zk t=true:=by
 have h1:¬ iface s p t<0:=by omega
 rw [zcL] at h1
 simpa using h1
theorem faultA_sound {s t:Sys} {p a:Aut}(h:zav s t p a=0):zaP [s,t] p=true:=by
 obtain⟨h1,h2,h3,h4,h5⟩:=zcV.1 h
 obtain⟨v1,v2,v3⟩:=zcG h1
 refine ag_sound h4 h5 ?_ (parts_mk (by simp) (by simp) (by simp;exact⟨v1,v3⟩))
 rw [h3,zds v1 v2 v3]
 simp [zD]
theorem yG11a1 {P:Prop}(h:P:=by
 have hz:zav s t p a=0∨zav s t p a=1∨zav s t p a=2∨zav s t p a=3∨zav s t p a=4:=by
  unfold zav
  (repeat' split)<;>simp
 have h5:zav s t p a≠1:=by
  intro h5
  unfold zav at h5
  rw [if_neg (by rintro (h|h);exact h1 h;rw [ha] at h;cases h)] at h5
  (repeat' split at h5)<;>omega
 (repeat' split at h)<;>omega
 ):P:=h
theorem check_sound {s t:Sys} {p a:Aut} {hd:Bool} {x:ByteArray}(h:zaR s t p hd a x=0):zaP [s,t] p=hd:=by
 unfold zaR at h
 by_cases h1:iface s p t<0
 ·rw [if_pos h1] at h;omega
 rw [if_neg h1] at h
 by_cases h2:zG hd a x=false
 ·rw [if_pos h2] at h;omega
 rw [if_neg h2] at h
 cases hd
 ·rw [if_pos rfl] at h
  unfold zcx at h
  by_cases h3:topB [s,t] x=false
  ·rw [if_pos h3] at h;omega
  rw [if_neg h3] at h
  by_cases h4:zce p x=false
  ·rw [if_pos h4] at h;omega
  simp only [Bool.not_eq_false] at h3 h4
  exact top_breaks h3 h4
 ·rw [if_neg (by decide)] at h
  have ha:zf a=true:=by
   unfold zG at h2
   simp at h2
   exact h2.1
  refine faultA_sound (a:=a) ?_
  exact yG11a1
theorem parts_swap (s t:Sys):zw [s,t]=zw [t,s]:=by
 unfold zw
 simp [Bool.and_comm]
theorem top_swap (s t:Sys) (x:ByteArray):topB [s,t] x=topB [t,s] x:=by
 rw [Bool.eq_iff_iff,top_iff,top_iff,parts_swap s t]
 have e:zD [s,t]=zD [t,s]:=by simp [zD,Nat.or_comm]
 rw [e]
 simp [and_comm]
theorem check_turned (s t:Sys) (p a:Aut) (x:ByteArray):zaR s t p false a x=zaR t s p false a x:=by
 have e:(iface s p t<0)↔(iface t p s<0):=by
  rw [zcL,zcL]
  cases zk s<;>cases zf p<;>cases zk t<;>decide
 unfold zaR zcx
 rw [top_swap s t x]
 by_cases h:iface t p s<0
 ·rw [if_pos h,if_pos (e.2 h)]
 ·rw [if_neg h,if_neg (fun h'=>h (e.1 h'))]
  simp only [↓reduceIte]
theorem runs_less {t u:Sys}(hal:u.al=t.al)(he:∀ e∈u.edges,e∈t.edges) {v:List Nat}(h:Runs u v):Runs t v:=by
 obtain⟨q,hq⟩:=h
 have key:∀ n (v:List Nat),v.length=n→∀ q,Goes (cho u) [0] v q→Goes (cho t) [0] v q:=by
  intro n
  induction n with
  |zero =>
   intro v hl q h
   obtain rfl:=List.eq_nil_of_length_eq_zero hl
   exact .nil h.inv_nil
  |succ n ih =>
   intro v hl q h
   rcases zZ v with rfl|⟨w,l,rfl⟩
   ·simp at hl
   obtain⟨m,h1,h2⟩:=h.inv
   refine .snoc (ih w (by simpa using hl) m h1) ?_
   unfold cho at h2 ⊢
   rw [hal] at h2
   split
   ·rename_i hb
    rw [if_pos hb] at h2
    obtain⟨h3,h4⟩:=zJ.1 h2
    obtain⟨e,h5,h6⟩:=(zch _ _ _ _).1 h4
    exact zJ.2 ⟨h3,(zch _ _ _ _).2 ⟨e,he e h5,h6⟩⟩
   ·rename_i hb
    rw [if_neg hb] at h2
    exact h2
 exact⟨q,key _ v rfl q hq⟩
theorem keepsP_less {t u:Sys} {a:Aut}(hv:zk u=true)(hal:u.al=t.al)(he:∀ e∈u.edges,e∈t.edges)(h:zaP [t] a=true):zaP [u] a=true:=by
 obtain⟨⟨h1,h2⟩,h3⟩:=zcB.1 h
 refine zcB.2 ⟨⟨parts_mk (by simp) (by simp) (by simpa using hv),h2⟩,fun v ho hr=>h3 v (by simpa [zD,hal] using ho) ?_⟩
 have:=hr u (by simp)
 simp only [List.mem_singleton,forall_eq]
 exact runs_less hal he this
theorem zdm {s t:Sys} {p a:Aut} {x:ByteArray}:zaR s t p true a x=0↔zG true a x=true∧zav s t p a=0:=by
 constructor
 ·intro h
  unfold zaR at h
  by_cases h1:iface s p t<0
  ·rw [if_pos h1] at h;omega
  rw [if_neg h1] at h
  by_cases h2:zG true a x=false
  ·rw [if_pos h2] at h;omega
  rw [if_neg h2,if_neg (by decide)] at h
  have ha:zf a=true:=by
   unfold zG at h2
   simp at h2
   exact h2.1
  refine⟨by simpa using h2,?_⟩
  exact yG11a1
 ·rintro ⟨h1,h2⟩
  have h3:=(zcV.1 h2).1
  unfold zaR
  rw [if_neg (by omega),if_neg (by rw [h1];decide),if_neg (by decide),h2]
  rfl
theorem check_fewer {s t u:Sys} {p a:Aut} {x:ByteArray}(hv:zk u=true)(hal:u.al=t.al)(he:∀ e∈u.edges,e∈t.edges)(h:zaR s t p true a x=0):zaR s u p true a x=0:=by
 obtain⟨h1,h2⟩:=zdm.1 h
 obtain⟨h3,h4,h5,h6,h7⟩:=zcV.1 h2
 obtain⟨v1,v2,v3⟩:=zcG h3
 have e:iface s p u=iface s p t:=by rw [zds v1 v2 v3,zds v1 v2 hv,hal]
 exact zdm.2 ⟨h1,zcV.2 ⟨by rw [e];exact h3,h4,by rw [e];exact h5,h6,keepsP_less hv hal he h7⟩⟩
set_option maxHeartbeats 4000000
def RetSt (N:Nat) (Q:Nat→Nat→Prop) (w:World) (e:Ending) (w':World):Prop:=
 ∃ (T:List Nat) (g c:Nat),e=.returned (.slice (some ⟨g,0,none⟩) N c)∧w'.ownsRow w.heap.size 3 1 (.slice (some ⟨g,0,none⟩) N c) N (nats T)∧zeg T N Q∧Ext w w'
def mset (s:Sys) (x l:Nat):Nat:=if s.al.toNat.testBit l then zbA s.edges x (l:Int) else x
theorem mset_bit {s:Sys}(hs:Sml s) (x l q':Nat):(mset s x l).testBit q'=true↔∃ q,x.testBit q=true∧q'∈cho s q l:=by
 unfold mset
 split
 ·rename_i h
  exact zhF hs h x q'
 ·rename_i h
  constructor
  ·intro h1;exact⟨q',h1,by unfold cho;rw [if_neg h];simp⟩
  ·rintro ⟨q,h1,h2⟩
   unfold cho at h2
   rw [if_neg h] at h2
   simp at h2
   rw [h2];exact h1
theorem mset_lt {s:Sys}(hs:Sml s) {x:Nat}(hx:x<65536) (l:Nat):mset s x l<65536:=by
 unfold mset
 split
 ·exact zgV hs _ _
 ·exact hx
structure MvI (s:Sys) (p:Aut) (l N:Nat) (T:List Nat) (k:Nat) (O:List Nat):Prop where
 len:O.length=N
 lt:∀ x∈O,x<65536
 bit:∀ j q',bitS O j q'↔∃ i q,i<k∧bitS T i q∧q'∈cho s q l∧j=aGo p i l
theorem MvI.step {s:Sys} {p:Aut} {l N k:Nat} {T O:List Nat}(h:MvI s p l N T k O)(hs:Sml s)(hp:zf p=true)(hN:N=p.next.length)(hT:∀ x∈T,x<65536)(hk:k<N)(hl:l<6) :
  MvI s p l N T (k+1) (O.set (aGo p k l) (O.getD (aGo p k l) 0|||mset s (T.getD k 0) l)):=by
 have hj:aGo p k l<O.length:=by rw [h.len,hN];exact zeN hp (by omega) hl
 refine⟨by rw [List.length_set];exact h.len,fun x hx=>?_,fun j q'=>?_⟩
 ·rcases List.mem_or_eq_of_mem_set hx with hx|rfl
  ·exact h.lt x hx
  ·exact Nat.or_lt_two_pow (n:=16) (zec h.lt _) (mset_lt hs (zec hT _) _)
 ·rw [zhk hj,h.bit,mset_bit hs]
  constructor
  ·rintro (⟨i,q,h1,h2,h3,h4⟩|⟨h1,q,h2,h3⟩)
   ·exact⟨i,q,by omega,h2,h3,h4⟩
   ·exact⟨k,q,by omega,h2,h3,h1⟩
  ·rintro ⟨i,q,h1,h2,h3,h4⟩
   rcases Nat.lt_or_eq_of_le (Nat.le_of_lt_succ h1) with h5|rfl
   ·exact .inl ⟨i,q,h5,h2,h3,h4⟩
   ·exact .inr ⟨h4,q,h2,h3⟩
theorem MvI.zero (s:Sys) (p:Aut) (l N:Nat) (T:List Nat):MvI s p l N T 0 (List.replicate N 0):=by
 refine⟨by simp,fun x hx=>by rw [List.mem_replicate] at hx;omega,fun j q'=>?_⟩
 constructor
 ·intro h
  unfold bitS at h
  rw [List.getD_eq_getElem?_getD] at h
  cases h1:(List.replicate N 0)[j]? with
  |none=>rw [h1] at h;simp at h
  |some x =>
   have:=List.mem_of_getElem? h1
   rw [List.mem_replicate] at this
   rw [h1,this.2] at h
   simp at h
 ·rintro ⟨_,_,h,_⟩;omega
theorem MvI.fin {s:Sys} {p:Aut} {l N:Nat} {T O:List Nat} {B:Nat→Nat→Prop}(h:MvI s p l N T N O)(hT:zeg T N B):zeg O N (mvB s p l B):=by
 refine⟨h.len,h.lt,fun j q'=>?_⟩
 rw [h.bit]
 constructor
 ·rintro ⟨i,q,h1,h2,h3,h4⟩
  exact⟨q,i,(hT.2.2 i q).1 h2,h3,h4⟩
 ·rintro ⟨q,i,h2,h3,h4⟩
  have hb:=(hT.2.2 i q).2 h2
  exact⟨i,q,by rw [← hT.1];exact bitS_lt hb,hb,h3,h4⟩
def badT (p:Aut) (T:List Nat) (N:Nat):Bool:=(List.range N).any fun i=>T.getD i 0 != 0&&!accB p i
theorem zhf {p:Aut} {T:List Nat} {N:Nat}:badT p T N=true↔∃ i,i<N∧T.getD i 0≠0∧accB p i=false:=by
 unfold badT
 rw [List.any_eq_true]
 constructor
 ·rintro ⟨i,h1,h2⟩
  rw [List.mem_range] at h1
  simp only [Bool.and_eq_true,bne_iff_ne,Bool.not_eq_true'] at h2
  exact⟨i,h1,h2.1,h2.2⟩
 ·rintro ⟨i,h1,h2,h3⟩
  exact⟨i,List.mem_range.2 h1,by simp [h3];simpa using h2⟩
section
variable {w:World} {lo hi n c m d m' d' L:Nat} {A B B':Option Addr} {s:Sys} {p:Aut}
set_option maxRecDepth 100000 in
theorem spec_l9Start {N:Nat}(hS:zO w lo hi A n s)(hP:zI w lo hi B m B' m' p)(hv:zk s=true)(hp:zf p=true)(hL:L<64)(hhi:hi≤w.heap.size)(hN:N=p.next.length) :
  Calls Tryz.prog 152 #[.agg #[.int .i64 s.al,.int .i64 s.st,.slice A n c,.int .i64 p.al,.slice B m d,.slice B' m' d',.int .i64 L]] w (RetSt N (PR s p L []) w):=by
 have hm:m=N:=hP.n1.trans hN.symm
 subst hm
 have hN12:1≤m∧m≤12:=by have:=(zj hp).2.1;omega
 have HS:=hide (fun W (hW:Ext w W)=>hS.ext hW)
 have HP:=hide (fun W (hW:Ext w W)=>hP.ext hW)
 have HN:=hide hN
 have hw1:Ext w (w.alloc (.cells #[.int .i64 s.al,.int .i64 s.st,.slice A n c,.int .i64 p.al,.slice B m d,.slice B' m' d',.int .i64 L] 98)):=(Ext.refl _).alloc _
 have b1:=Blk.new w 98 #[.int .i64 s.al,.int .i64 s.st,.slice A n c,.int .i64 p.al,.slice B m d,.slice B' m' d',.int .i64 L]
 have hb1:=b1.lt
 clear hS hP hN
 go_enter Tryz.func152,Tryz.ntmps152
 go_upto_region 1 with fail
 generalize w.alloc (.cells #[.int .i64 s.al,.int .i64 s.st,.slice A n c,.int .i64 p.al,.slice B m d,.slice B' m' d',.int .i64 L] 98)=w1 at *
 have k1:=b1.cell
 go_upto_region 2 with (at_make;refine zbS w1 w1 rfl _ _ 71 rfl 3 _ 1 8 Tryz.underlying71 zai _ _ m rfl rfl (Ext.refl _) (by omega) (by unfold maxLen;omega) ?_;intro w2 hx2 hown2 hx23 hsz2)
 rw [madeZ] at hown2
 have hst:=(hown2.stored 0 (.int .i64 1)).1
 rw [show (nats (List.replicate m 0)).set 0 (.int .i64 1)=nats ((List.replicate m 0).set 0 1) from (zfK (i:=0) (v:=1) (R:=List.replicate m 0)).symm] at hst
 have hfz:=hown2.frozenAt 0
 have hc0:=zcY hown2 (show 0<m by omega)
 have hw3:=(hw1.trans hx2).setCell (p:=⟨w1.heap.size,0,none⟩) hw1.size (.int .i64 1)
 have hb2:=(b1.ext hx2).far (p:=⟨w1.heap.size,0,none⟩) (by dsimp only;omega) (.int .i64 1)
 have h0m:(0:Int)<(m:Int):=by omega
 clear k1
 have k1:=hb2.cell
 have hH:=hide (fun T' (hT':zeg T' m (fun q i=>q=0∧i=0))=>hT')
 have hS3:=HS.out _ hw3
 have hP3:=HP.out _ hw3
 have hT0:=stand_start hN12.1
 have hsz:=hw1.size
 clear hx23
 go_wp2_with fail
 refine (zfo (c:=c) (d:=d) (d':=d') hS3 hP3 hv hp hL HN.out (by omega) hst hT0).mono ?_
 rintro e w4 ⟨T',rfl,hown4,hT4,hfr4⟩
 go_wp2_with fail
 go_ret
 exact⟨T',w1.heap.size,m,rfl,zn hown4 hw1.size,hT4,hw3.frm hfr4 (fun k hk e=>by omega)⟩
theorem spec_l9Move {N l g0 b0 c0:Nat} {T:List Nat} {Q:Nat→Nat→Prop}(hS:zO w lo hi A n s)(hP:zI w lo hi B m B' m' p)(hv:zk s=true)(hp:zf p=true)(hL:L<64)(hhi:hi≤w.heap.size)(hN:N=p.next.length)(hl:l<6)
  (hown:w.ownsRow b0 3 1 (.slice (some ⟨g0,0,none⟩) N c0) N (nats T)) (hT:zeg T N Q) :
  Calls Tryz.prog 154 #[.agg #[.int .i64 s.al,.int .i64 s.st,.slice A n c,.int .i64 p.al,.slice B m d,.slice B' m' d',.int .i64 L],.slice (some ⟨g0,0,none⟩) N c0,.int .i64 l] w (RetSt N (Cl s p L (mvB s p l Q)) w):=by
 have hsm:=zcw hv
 obtain⟨ha0,ha1⟩:=zR hv
 obtain⟨al,hal⟩:∃ al:Nat,Hid (s.al=al):=⟨s.al.toNat,by unfold Hid;omega⟩
 have hal64:al<64:=by have:=hal.out;omega
 have hto:=hide (show s.al.toNat=al by have:=hal.out;omega)
 have hN12:1≤N∧N≤12:=by have:=(zj hp).2.1;omega
 have HS:=hide (fun W (hW:Ext w W)=>hS.ext hW)
 have HP:=hide (fun W (hW:Ext w W)=>hP.ext hW)
 have HN:=hide hN
 have HT:=hide hT
 have hgw:=(hown.lt g0 rfl).2
 have hw1:Ext w (w.alloc (.cells #[.int .i64 s.al,.int .i64 s.st,.slice A n c,.int .i64 p.al,.slice B m d,.slice B' m' d',.int .i64 L] 98)):=(Ext.refl _).alloc _
 have b1:=Blk.new w 98 #[.int .i64 s.al,.int .i64 s.st,.slice A n c,.int .i64 p.al,.slice B m d,.slice B' m' d',.int .i64 L]
 have hb1:=b1.lt
 clear hS hP hN hT
 go_enter Tryz.func154,Tryz.ntmps154
 go_upto_region 1 with fail
 generalize w.alloc (.cells #[.int .i64 s.al,.int .i64 s.st,.slice A n c,.int .i64 p.al,.slice B m d,.slice B' m' d',.int .i64 L] 98)=w1 at *
 go_wp2_with (at_make;refine zbS w1 w1 rfl _ _ 71 rfl 3 _ 1 8 Tryz.underlying71 zai _ _ N rfl rfl (Ext.refl _) (by omega) (by unfold maxLen;omega) ?_;intro w2 hx2 hown2 hx23 hsz2)
 rw [madeZ] at hown2
 have hsz1:=hw1.size
 have hw2:=hw1.trans hx2
 clear hx23
 obtain⟨gO,hgO⟩:∃ gO,gO=w1.heap.size:=⟨_,rfl⟩
 rw [← hgO] at hown2 ⊢
 have hOw:w.heap.size<gO:=by omega
 clear hgO
 go_loopw [8] (fun iv wr=>∃ (i:Nat) (O:List Nat),iv=.int .i64 i∧i≤N∧Hid (MvI s p l N T i O)∧wr.ownsRow gO 3 1 (.slice (some ⟨gO,0,none⟩) N N) N (nats O)∧Frm (fun k=>k=gO) w2 wr) (fun iv _=>N - (intOf iv).toNat)
 case atStart=>exact⟨0,_,rfl,Nat.zero_le _,hide (MvI.zero s p l N T),hown2,Frm.refl _ _⟩
 case round =>
  clear hown2
  obtain⟨i,O,rfl,hi,hO,hownO,hfr⟩:=hrel
  have hxr:Ext w wr:=hw2.frm hfr (fun k hk e=>by omega)
  have k1:=((b1.ext hx2).frm hfr (by omega)).cell
  by_cases hlt:i<N
  ·have hlt':(i:Int)<(N:Int):=by omega
   have cI:=zcY (zg hown hxr) hlt
   obtain⟨x,hx⟩:∃ x,Hid (T.getD i 0=x):=⟨_,rfl⟩
   have hx16:x<65536:=by rw [← hx.out];exact zec HT.out.2.1 i
   rw [hx.out] at cI
   have CB:∀ W,Ext wr W→∀ q,W.cell? ⟨w.heap.size,q,none⟩=#[Value.int .i64 al,.int .i64 s.st,.slice A n c,.int .i64 p.al,.slice B m d,.slice B' m' d',.int .i64 L][q]?:=fun W hW q=>by rw [(((b1.ext hx2).frm hfr (by omega)).ext hW).cell,hal.out]
   have CI:∀ W,Ext wr W→W.cell? ⟨g0,i,none⟩=some (.int .i64 (x:Nat)):=fun W hW=>hW.cell_some cI
   obtain⟨j,hj⟩:∃ j,Hid (aGo p i l=j):=⟨_,rfl⟩
   have hjN:j<N:=by rw [← hj.out,HN.out];exact zeN hp (by rw [← HN.out];exact hlt) hl
   have hjN':(j:Int)<(N:Int):=by omega
   obtain⟨v,hv0⟩:∃ v,Hid (O.getD j 0=v):=⟨_,rfl⟩
   obtain⟨y,hy⟩:∃ y,Hid (mset s x l=y):=⟨_,rfl⟩
   obtain⟨u,hu⟩:∃ u,Hid (v|||y=u):=⟨_,rfl⟩
   have hv16:v<65536:=by rw [← hv0.out];exact zec hO.out.lt j
   have hy16:y<65536:=by rw [← hy.out];exact mset_lt hsm hx16 l
   have hor:=zbE (a:=v) (b:=y) (by unfold Sm;omega) (by unfold Sm;omega)
   rw [hu.out] at hor
   have CJ:∀ W,Ext wr W→W.cell? ⟨gO,j,none⟩=some (.int .i64 (v:Nat)):=fun W hW=>hW.cell_some (hv0.out ▸ zcY hownO hjN)
   have FJ:∀ W,Ext wr W→W.frozen? ⟨gO,j,none⟩=false:=fun W hW=>(zg hownO hW).frozenAt j
   have hstep:=hO.out.step hsm hp HN.out HT.out.2.1 hlt hl
   rw [hj.out,hv0.out,hx.out,hy.out,hu.out] at hstep
   have Hstep:=hide hstep
   have Hst:=hide (fun W (hW:Ext wr W)=>((zg hownO hW).stored j (.int .i64 (u:Nat))).1)
   have hww:=Ext.refl wr
   clear hstep k1 cI
   cases hb:al.testBit l
   ·have Hb:=hide hb
    have hyx:x=y:=by rw [← hy.out];unfold mset;rw [hto.out,hb];rfl
    subst hyx
    clear hb
    go_wp2_with (first
     |(go_at_call 147;refine (zal al l (by unfold Sm;omega) _ (by omega)).mono ?_;rw [Hb.out];rintro e w' ⟨rfl,rfl⟩)
     |(go_at_call 198;refine (zcP (HP.out _ hxr) hp (by rw [← HN.out];exact hlt) hl).mono ?_;rw [hj.out];rintro e w4 ⟨rfl,hx4⟩))
    have hst:=Hst.out w4 hx4
    rw [← zfK] at hst
    go_roundw
    case rel=>exact⟨i+1,O.set j u,by go_num,by omega,Hstep,hst,(hfr.ext hx4).trans (Frm.setCell _ gO j _)⟩
    case measure=>simp [intOf];omega
   ·have Hb:=hide hb
    have hyx:Hid (zbA s.edges x (l:Int)=y):=by unfold Hid;rw [← hy.out];unfold mset;rw [hto.out,hb];rfl
    clear hb
    go_wp2_with (first
     |(go_at_call 147;refine (zal al l (by unfold Sm;omega) _ (by omega)).mono ?_;rw [Hb.out];rintro e w' ⟨rfl,rfl⟩)
     |(go_at_call 129;rw [← hal.out];refine (zef (c:=c) (k0:=s.st.toNat) (HS.out _ hxr) hsm.2.2.1 (by have:=hsm.2.1;omega) (by unfold Sm;omega)).mono ?_;rw [hyx.out];rintro e w3 ⟨rfl,hx3⟩;have hxr3:=hxr.trans hx3)
     |(go_at_call 198;refine (zcP (HP.out _ hxr3) hp (by rw [← HN.out];exact hlt) hl).mono ?_;rw [hj.out];rintro e w4 ⟨rfl,hx4⟩;have hx34:=hx3.trans hx4))
    have hst:=Hst.out w4 hx34
    rw [← zfK] at hst
    go_roundw
    case rel=>exact⟨i+1,O.set j u,by go_num,by omega,Hstep,hst,(hfr.ext hx34).trans (Frm.setCell _ gO j _)⟩
    case measure=>simp [intOf];omega
  ·obtain rfl:i=N:=by omega
   have hfin:=hO.out.fin HT.out
   go_wp2_with fail
   refine (zfo (c:=c) (d:=d) (d':=d') (HS.out _ hxr) (HP.out _ hxr) hv hp hL HN.out (by omega) hownO hfin).mono ?_
   rintro e w4 ⟨T',rfl,hown4,hT4,hfr4⟩
   go_wp2_with fail
   go_ret
   exact⟨T',gO,i,rfl,zn hown4 (by omega),hT4,hxr.frm hfr4 (fun k hk e=>by omega)⟩
end
set_option maxHeartbeats 4000000
noncomputable def zy (s:Sys) (p:Aut) (L:Nat) (t:ByteArray):Bool:=by
 classical exact inB t L&&decide (SafeW s p L (wl t))
theorem zfQ {s:Sys} {p:Aut} {L:Nat} {t:ByteArray}:zy s p L t=true↔inB t L=true∧SafeW s p L (wl t):=by
 unfold zy
 simp
section
variable {w:World} {lo hi n c m d m' d' L:Nat} {A B B':Option Addr} {s:Sys} {p:Aut}
set_option maxRecDepth 100000 in
theorem spec_l9Bad {N g0 b0 c0:Nat} {T:List Nat}(hP:zI w lo hi B m B' m' p)(hp:zf p=true)(hN:N=p.next.length)
  (hown:w.ownsRow b0 3 1 (.slice (some ⟨g0,0,none⟩) N c0) N (nats T)) :
  Calls Tryz.prog 153 #[.agg #[.int .i64 s.al,.int .i64 s.st,.slice A n c,.int .i64 p.al,.slice B m d,.slice B' m' d',.int .i64 L],.slice (some ⟨g0,0,none⟩) N c0] w fun e w'=>e=.returned (.bool (badT p T N))∧Ext w w':=by
 have hN12:1≤N∧N≤12:=by have:=(zj hp).2.1;omega
 have hm':m'=N:=by rw [hP.n2,(zj hp).2.2.1,hN]
 have HB:=hide (fun W (hW:Ext w W) q hq=>zcF (q:=q) (hP.ext hW) hq)
 have hw1:Ext w (w.alloc (.cells #[.int .i64 s.al,.int .i64 s.st,.slice A n c,.int .i64 p.al,.slice B m d,.slice B' m' d',.int .i64 L] 98)):=(Ext.refl _).alloc _
 have b1:=Blk.new w 98 #[.int .i64 s.al,.int .i64 s.st,.slice A n c,.int .i64 p.al,.slice B m d,.slice B' m' d',.int .i64 L]
 subst hm'
 clear hP hN
 go_enter Tryz.func153,Tryz.ntmps153
 go_upto_region 1 with fail
 generalize w.alloc (.cells #[.int .i64 s.al,.int .i64 s.st,.slice A n c,.int .i64 p.al,.slice B m d,.slice B' m' d',.int .i64 L] 98)=w1 at *
 have k1:=b1.cell
 go_wp2_with fail
 go_loop [5] (fun iv=>∃ i:Nat,iv=.int .i64 i∧i≤m'∧Hid (∀ j,j<i→T.getD j 0=0∨accB p j=true)) (fun iv=>m' - (intOf iv).toNat)
 case atStart=>exact⟨0,rfl,Nat.zero_le _,hide (fun j h=>by omega)⟩
 case round =>
  obtain⟨i,rfl,hi,hdone⟩:=hrel
  by_cases hlt:i<m'
  ·have hlt':(i:Int)<(m':Int):=by omega
   obtain⟨ad,rfl,cA⟩:=HB.out w1 hw1 i hlt
   have cI:=zcY (zg hown hw1) hlt
   obtain⟨x,hx⟩:∃ x,Hid (T.getD i 0=x):=⟨_,rfl⟩
   rw [hx.out] at cI
   by_cases h0:x=0
   ·subst h0
    go_wp2_with fail
    go_round
    case rel=>exact⟨i+1,by go_num,by omega,hide (fun j hj=>by
     rcases Nat.lt_or_eq_of_le (Nat.le_of_lt_succ hj) with h1|rfl
     ·exact hdone.out j h1
     ·exact .inl hx.out)⟩
    case measure=>simp [intOf];omega
   ·have hne:((x:Int) != 0)=true:=by simp;omega
    cases hacc:accB p i
    ·have hb:=hide (show badT p T m'=true from zhf.2 ⟨i,hlt,by rw [hx.out];exact h0,hacc⟩)
     rw [hacc] at cA
     clear hacc h0
     go_wp2_with fail
     go_ret
     exact⟨zi (by rw [hb.out]),hw1⟩
    ·have Hacc:=hide hacc
     rw [hacc] at cA
     clear hacc h0
     go_wp2_with fail
     go_round
     case rel=>exact⟨i+1,by go_num,by omega,hide (fun j hj=>by
      rcases Nat.lt_or_eq_of_le (Nat.le_of_lt_succ hj) with h1|rfl
      ·exact hdone.out j h1
      ·exact .inr Hacc.out)⟩
     case measure=>simp [intOf];omega
  ·obtain rfl:i=m':=by omega
   have hb:=hide (show badT p T i=false by
    rw [Bool.eq_false_iff]
    intro h
    obtain⟨j,h1,h2,h3⟩:=zhf.1 h
    rcases hdone.out j h1 with h4|h4
    ·exact h2 h4
    ·rw [h3] at h4;cases h4)
   go_wp2_with fail
   go_ret
   exact⟨zi (by rw [hb.out]),hw1⟩
set_option maxRecDepth 100000 in
theorem zdU (hS:zO w lo hi A n s)(hP:zI w lo hi B m B' m' p)(hv:zk s=true)(hp:zf p=true)(hL:L<64) :
  Calls Tryz.prog 150 #[.agg #[.int .i64 s.al,.int .i64 s.st,.slice A n c,.int .i64 p.al,.slice B m d,.slice B' m' d',.int .i64 L]] w fun e w'=>e=.returned (.bool true)∧Ext w w':=by
 have HS:=hide (fun W (hW:Ext w W)=>zad (c:=c) (hS.ext hW))
 have HP:=hide (fun W (hW:Ext w W)=>zE _ _ _ _ d _ _ d' _ _ (hP.ext hW))
 rw [hv] at HS
 rw [hp] at HP
 have hal:=hide (show (decide ((0:Int)≤L∧(L:Int)≤63))=true by simp;omega)
 have hw1:Ext w (w.alloc (.cells #[.int .i64 s.al,.int .i64 s.st,.slice A n c,.int .i64 p.al,.slice B m d,.slice B' m' d',.int .i64 L] 98)):=(Ext.refl _).alloc _
 have b1:=Blk.new w 98 #[.int .i64 s.al,.int .i64 s.st,.slice A n c,.int .i64 p.al,.slice B m d,.slice B' m' d',.int .i64 L]
 clear hS hP hv hp
 go_enter Tryz.func150,Tryz.ntmps150
 go_upto_region 1 with fail
 generalize w.alloc (.cells #[.int .i64 s.al,.int .i64 s.st,.slice A n c,.int .i64 p.al,.slice B m d,.slice B' m' d',.int .i64 L] 98)=w1 at *
 have CB:=b1.cells
 have hww:=Ext.refl w1
 go_wp2_with (first
  |(go_at_call 112;refine (HS.out _ hw1).mono ?_;rintro e w2 ⟨rfl,hx2⟩)
  |(go_at_call 46;refine (HP.out _ (hw1.trans hx2)).mono ?_;rintro e w3 ⟨rfl,hx3⟩;have hx23:=hx2.trans hx3)
  |(go_at_call 96;refine (zS _ _).mono ?_;rw [hal.out];rintro e w4 ⟨rfl,rfl⟩))
 go_ret
 exact⟨rfl,hw1.trans hx23⟩
theorem zhq {N k:Nat} {T v:List Nat}(h:zeg T N (PR s p L (v.take k))):badT p T N=true↔Bad s p L (v.take k):=zhf.trans (stand_bad h).symm
set_option maxRecDepth 100000 in
theorem zex {t:ByteArray}(hS:zO w lo hi A n s)(hP:zI w lo hi B m B' m' p)(hv:zk s=true)(hp:zf p=true)(hL:L<64)(hhi:hi≤w.heap.size)(ht:t.size≤9223372036854775807) :
  Calls Tryz.prog 83 #[.agg #[.int .i64 s.al,.int .i64 s.st,.slice A n c,.int .i64 p.al,.slice B m d,.slice B' m' d',.int .i64 L],.string t] w fun e w'=>e=.returned (.bool (zy s p L t))∧Ext w w':=by
 obtain⟨N,hN⟩:∃ N,Hid (N=p.next.length):=⟨_,rfl⟩
 have HV:=hide (fun W (hW:Ext w W)=>zdU (c:=c) (d:=d) (d':=d') (L:=L) (hS.ext hW) (hP.ext hW) hv hp hL)
 have HSt:=hide (fun W (hW:Ext w W)=>spec_l9Start (c:=c) (d:=d) (d':=d') (L:=L) (N:=N) (hS.ext hW) (hP.ext hW) hv hp hL (Nat.le_trans hhi hW.size) hN.out)
 have HB:=hide (fun (g0 b0 c0:Nat) (T:List Nat) W (hW:Ext w W) (ho:W.ownsRow b0 3 1 (.slice (some ⟨g0,0,none⟩) N c0) N (nats T))=>spec_l9Bad (A:=A) (n:=n) (c:=c) (d:=d) (d':=d') (L:=L) (s:=s) (hP.ext hW) hp hN.out ho)
 have HM:=hide (fun (l g0 b0 c0:Nat) (T:List Nat) (Q:Nat→Nat→Prop) W (hW:Ext w W) (hl:l<6) (ho:W.ownsRow b0 3 1 (.slice (some ⟨g0,0,none⟩) N c0) N (nats T)) (hT:zeg T N Q)=>spec_l9Move (c:=c) (d:=d) (d':=d') (L:=L) (hS.ext hW) (hP.ext hW) hv hp hL (Nat.le_trans hhi hW.size) hN.out hl ho hT)
 have hw1:Ext w (w.alloc (.cells #[.int .i64 s.al,.int .i64 s.st,.slice A n c,.int .i64 p.al,.slice B m d,.slice B' m' d',.int .i64 L] 98)):=(Ext.refl _).alloc _
 have b1:=Blk.new w 98 #[.int .i64 s.al,.int .i64 s.st,.slice A n c,.int .i64 p.al,.slice B m d,.slice B' m' d',.int .i64 L]
 clear hS hP
 cases hin:inB t L
 ·have Hin:=hide hin
  have hfin:=hide (show zy s p L t=false by rw [Bool.eq_false_iff];intro h;have:=(zfQ.1 h).1;rw [hin] at this;cases this)
  clear hin
  go_enter Tryz.func83,Tryz.ntmps83
  go_upto_region 1 with fail
  generalize w.alloc (.cells #[.int .i64 s.al,.int .i64 s.st,.slice A n c,.int .i64 p.al,.slice B m d,.slice B' m' d',.int .i64 L] 98)=w1 at *
  have CB:=b1.cells
  have hww:=Ext.refl w1
  go_wp2_with (first
   |(go_at_call 150;refine (HV.out _ hw1).mono ?_;rintro e w2 ⟨rfl,hx2⟩)
   |(go_at_call 151;refine (zaa ht (by omega)).mono ?_;rw [Hin.out];rintro e w3 ⟨rfl,rfl⟩))
  go_ret
  exact⟨zi (by rw [hfin.out]),hw1.trans hx2⟩
 ·have Hin:=hide hin
  have Hb:=hide (fun k hk=>zaM (zaL hin) (k:=k) hk)
  clear hin
  go_enter Tryz.func83,Tryz.ntmps83
  go_upto_region 1 with fail
  generalize w.alloc (.cells #[.int .i64 s.al,.int .i64 s.st,.slice A n c,.int .i64 p.al,.slice B m d,.slice B' m' d',.int .i64 L] 98)=w1 at *
  have CB:=b1.cells
  have hww:=Ext.refl w1
  go_wp2_with (first
   |(go_at_call 150;refine (HV.out _ hw1).mono ?_;rintro e w2 ⟨rfl,hx2⟩)
   |(go_at_call 151;refine (zaa ht (by omega)).mono ?_;rw [Hin.out];rintro e w3 ⟨rfl,rfl⟩)
   |(go_at_call 152;refine (HSt.out _ (hw1.trans hx2)).mono ?_;rintro e w4 ⟨T,g,cc,rfl,hown,hT,hx4⟩;have hx14:=hx2.trans hx4))
  go_loopw [5,6] (fun v iv wr=>∃ (k g b0 cc:Nat) (T:List Nat),iv=.int .i64 k∧k≤t.size∧v=.slice (some ⟨g,0,none⟩) N cc∧wr.ownsRow b0 3 1 (.slice (some ⟨g,0,none⟩) N cc) N (nats T)∧Hid (zeg T N (PR s p L ((wl t).take k)))∧Hid (∀ j,j<k→¬ Bad s p L ((wl t).take j))∧Ext w1 wr) (fun _ iv _=>t.size - (intOf iv).toNat)
  case atStart=>exact⟨0,g,_,cc,T,rfl,Nat.zero_le _,rfl,hown,hide (by simpa using hT),hide (fun j h=>by omega),hx14⟩
  case round =>
   clear hown hT hx2 hx4 hx14
   obtain⟨k,g,b0,cc,T,rfl,hk,rfl,hown,hT,hdone,hxr⟩:=hrel
   by_cases hlt:k<t.size
   ·have hlt':(k:Int)<(t.size:Int):=by omega
    obtain⟨l,hl⟩:∃ l:Nat,Hid ((t[k].toNat:Int) - 97=l):=⟨t[k].toNat - 97,by unfold Hid;have:=Hb.out k hlt;omega⟩
    have hl6:l<6:=by have:=hl.out;have:=Hb.out k hlt;omega
    have hst:=hide (show (wl t).take (k+1)=(wl t).take k++[l] by rw [List.take_add_one,zdX hlt,Option.toList_some,show t[k].toNat - 97=l by have:=hl.out;have:=Hb.out k hlt;omega])
    cases hbad:badT p T N
    ·have Hbad:=hide hbad
     have hnb:=hide (show ¬ Bad s p L ((wl t).take k) by rw [← zhq hT.out,hbad];decide)
     clear hbad
     go_wp2_with (first|(go_at_call 153;refine (HB.out _ _ _ _ _ (hw1.trans hxr) hown).mono ?_;rw [Hbad.out];rintro e w5 ⟨rfl,hx5⟩;have hxr5:=hxr.trans hx5))
     have HMr:=hide (fun W (hW:Ext wr W)=>HM.out l g b0 cc T _ W ((hw1.trans hxr).trans hW) hl6 (zg hown hW) hT.out)
     have CBr:∀ W,Ext wr W→∀ q,W.cell? ⟨w.heap.size,q,none⟩=#[Value.int .i64 s.al,.int .i64 s.st,.slice A n c,.int .i64 p.al,.slice B m d,.slice B' m' d',.int .i64 L][q]?:=fun W hW=>CB W (hxr.trans hW)
     go_region_held3 (fun W=>Ext wr W) (first|assumption|(refine Ext.drew ?_;assumption)|(refine Ext.trans ?_ (by assumption);assumption)|(refine Ext.trans ?_ (by assumption);refine Ext.drew ?_;assumption)) (first
      |(go_at_call 148;refine (zbg t k hlt _).mono ?_;rw [hl.out];rintro e w6 ⟨rfl,rfl⟩)
      |(go_at_call 154;refine (HMr.out _ ?_).mono ?_;(first|assumption|(refine Ext.drew ?_;assumption));rintro e w7 ⟨T7,g7,c7,rfl,hown7,hT7,hx7⟩))
     have hx17:Ext w1 w7:=hxr.trans (by assumption)
     rw [← PR_snoc,← hst.out] at hT7
     have HT7:=hide hT7
     clear hT7 HMr CBr
     go_wp2_with fail
     go_roundw
     case rel=>exact⟨k+1,g7,_,c7,T7,by go_num,by omega,rfl,hown7,HT7,hide (fun j hj=>by
      rcases Nat.lt_or_eq_of_le (Nat.le_of_lt_succ hj) with h1|rfl
      ·exact hdone.out j h1
      ·exact hnb.out),hx17⟩
     case measure=>simp [intOf];omega
    ·have Hbad:=hide hbad
     have hfin:=hide (show zy s p L t=false by
      rw [Bool.eq_false_iff]
      intro h
      exact (zfQ.1 h).2 k (by rw [zdV];omega) ((zhq hT.out).1 hbad))
     clear hbad
     go_wp2_with (first
      |(go_at_call 153;with_reducible refine (HB.out _ _ _ _ _ (hw1.trans hxr) hown).mono ?_;rw [Hbad.out];rintro e w5 ⟨rfl,hx5⟩;have hxr5:=hxr.trans hx5)
      |(go_at_call 153;refine (HB.out _ _ _ _ _ (hw1.trans hxr5) (zg hown hx5)).mono ?_;rw [Hbad.out];rintro e w6 ⟨rfl,hx6⟩))
     go_ret
     exact⟨zi (by rw [hfin.out]),hw1.trans (hxr5.trans hx6)⟩
   ·have hkt:k=t.size:=by omega
    have hge:(t.size:Int)≤(k:Int):=by omega
    have hfin:=hide (show zy s p L t=!badT p T N by
     rw [Bool.eq_iff_iff,zfQ,Bool.not_eq_true',← Bool.not_eq_true,zhq hT.out]
     constructor
     ·intro h;exact h.2 k (by rw [zdV];omega)
     ·intro h
      refine⟨Hin.out,fun j hj=>?_⟩
      rw [zdV] at hj
      rcases Nat.lt_or_eq_of_le hj with h1|rfl
      ·exact hdone.out j (by omega)
      ·rw [hkt] at h;exact h)
    clear hkt hlt hk
    go_wp2_with (first
     |(go_at_call 153;refine (HB.out _ _ _ _ _ (hw1.trans hxr) hown).mono ?_;rintro e w6 ⟨rfl,hx6⟩))
    go_ret
    exact⟨zi (by rw [hfin.out]),hw1.trans (hxr.trans hx6)⟩
end
set_option maxHeartbeats 4000000
structure Tch (w:World) (A:Option Addr) (n:Nat) (B:Option Addr) (m:Nat) (B':Option Addr) (m':Nat) (s:Sys) (p:Aut) (L:Nat):Prop where
 at_:∃ lo hi,zO w lo hi A n s∧zI w lo hi B m B' m' p∧hi≤w.heap.size
 sv:zk s=true
 pv:zf p=true
 lt:L<64
section
variable {w W:World} {n c m d m' d' L:Nat} {A B B':Option Addr} {s:Sys} {p:Aut}
theorem Tch.ext (h:Tch w A n B m B' m' s p L)(hx:Ext w W):Tch W A n B m B' m' s p L:=by
 obtain⟨lo,hi,h1,h2,h3⟩:=h.at_
 exact⟨⟨lo,hi,h1.ext hx,h2.ext hx,Nat.le_trans h3 hx.size⟩,h.sv,h.pv,h.lt⟩
set_option maxRecDepth 100000 in
theorem zaK (h:Tch w A n B m B' m' s p L) :
  Calls Tryz.prog 142 #[.agg #[.bool false,.int .i64 0,.slice none 0 0,.slice none 0 0,.int .i64 s.al,.int .i64 s.st,.slice A n c,.int .i64 p.al,.slice B m d,.slice B' m' d',.int .i64 L]] w fun e w'=>e=.returned (.int .i64 (L:Nat))∧Ext w w':=by
 obtain⟨lo,hi,h1,h2,h3⟩:=h.at_
 have HV:=hide (fun W (hW:Ext w W)=>zdU (c:=c) (d:=d) (d':=d') (L:=L) (h1.ext hW) (h2.ext hW) h.sv h.pv h.lt)
 have hw1:Ext w (w.alloc (.cells #[.bool false,.int .i64 0,.slice none 0 0,.slice none 0 0,.int .i64 s.al,.int .i64 s.st,.slice A n c,.int .i64 p.al,.slice B m d,.slice B' m' d',.int .i64 L] 100)):=(Ext.refl _).alloc _
 have b1:=Blk.new w 100 #[.bool false,.int .i64 0,.slice none 0 0,.slice none 0 0,.int .i64 s.al,.int .i64 s.st,.slice A n c,.int .i64 p.al,.slice B m d,.slice B' m' d',.int .i64 L]
 clear h h1 h2
 go_enter Tryz.func142,Tryz.ntmps142
 go_upto_region 1 with fail
 generalize w.alloc (.cells #[.bool false,.int .i64 0,.slice none 0 0,.slice none 0 0,.int .i64 s.al,.int .i64 s.st,.slice A n c,.int .i64 p.al,.slice B m d,.slice B' m' d',.int .i64 L] 100)=w1 at *
 have CB:=b1.cells
 have hww:=Ext.refl w1
 go_wp2_with (first
  |(go_at_call 150;refine (HV.out _ hw1).mono ?_;rintro e w2 ⟨rfl,hx2⟩))
 go_ret
 exact⟨rfl,hw1.trans hx2⟩
theorem zdu {t:ByteArray}(h:Tch w A n B m B' m' s p L)(ht:t.size≤9223372036854775807) :
  Calls Tryz.prog 187 #[.agg #[.bool false,.int .i64 0,.slice none 0 0,.slice none 0 0,.int .i64 s.al,.int .i64 s.st,.slice A n c,.int .i64 p.al,.slice B m d,.slice B' m' d',.int .i64 L],.string t] w fun e w'=>e=.returned (.bool (zy s p L t))∧Ext w w':=by
 obtain⟨lo,hi,h1,h2,h3⟩:=h.at_
 have HV:=hide (fun W (hW:Ext w W)=>zex (c:=c) (d:=d) (d':=d') (L:=L) (t:=t) (h1.ext hW) (h2.ext hW) h.sv h.pv h.lt (Nat.le_trans h3 hW.size) ht)
 have hw1:Ext w (w.alloc (.cells #[.bool false,.int .i64 0,.slice none 0 0,.slice none 0 0,.int .i64 s.al,.int .i64 s.st,.slice A n c,.int .i64 p.al,.slice B m d,.slice B' m' d',.int .i64 L] 100)):=(Ext.refl _).alloc _
 have b1:=Blk.new w 100 #[.bool false,.int .i64 0,.slice none 0 0,.slice none 0 0,.int .i64 s.al,.int .i64 s.st,.slice A n c,.int .i64 p.al,.slice B m d,.slice B' m' d',.int .i64 L]
 clear h h1 h2
 go_enter Tryz.func187,Tryz.ntmps187
 go_upto_region 1 with fail
 generalize w.alloc (.cells #[.bool false,.int .i64 0,.slice none 0 0,.slice none 0 0,.int .i64 s.al,.int .i64 s.st,.slice A n c,.int .i64 p.al,.slice B m d,.slice B' m' d',.int .i64 L] 100)=w1 at *
 have CB:=b1.cells
 have hww:=Ext.refl w1
 go_wp2_with (first
  |(go_at_call 83;refine (HV.out _ hw1).mono ?_;rintro e w2 ⟨rfl,hx2⟩))
 go_ret
 exact⟨rfl,hw1.trans hx2⟩
end
theorem str_loop (b:ByteArray):∀ (k:Nat) (i:Nat) (r:List UInt8),b.size - i=k→ByteArray.toList.loop b i r=r.reverse++b.data.toList.drop i:=by
 intro k
 induction k with
 |zero =>
  intro i r h
  unfold ByteArray.toList.loop
  rw [if_neg (by omega),List.drop_of_length_le (by rw [Array.length_toList];show b.size≤i;omega),List.append_nil]
 |succ k ih =>
  intro i r h
  have hi:i<b.size:=by omega
  unfold ByteArray.toList.loop
  rw [if_pos hi,ih (i+1) _ (by omega),List.drop_eq_getElem_cons (i:=i) (by rw [Array.length_toList];exact hi),List.reverse_cons,List.append_assoc]
  have e:b.get! i=b.data.toList[i]'(by rw [Array.length_toList];exact hi):=by
   rw [Array.getElem_toList]
   show b.data[i]! = _
   exact getElem!_pos b.data i hi
  rw [e]
  rfl
theorem str_data (b:ByteArray):b.toList=b.data.toList:=by
 unfold ByteArray.toList
 rw [str_loop b _ 0 [] rfl]
 rfl
theorem str_ext {x y:ByteArray}(h:x.toList=y.toList):x=y:=by
 rw [str_data,str_data] at h
 cases x;cases y
 congr 1
 exact Array.toList_inj.1 h
theorem str_ne {x y:ByteArray}(h:¬ x=y):(x.toList==y.toList)=false:=by
 rw [beq_eq_false_iff_ne]
 exact fun e=>h (str_ext e)
noncomputable def memB (l:List ByteArray) (x:ByteArray):Bool:=by classical exact decide (x∈l)
theorem zdz {l:List ByteArray} {x:ByteArray}:memB l x=true↔x∈l:=by unfold memB;simp
theorem zcj {l:List ByteArray} {x:ByteArray}:memB l x=false↔x∉l:=by rw [← Bool.not_eq_true,zdz]
theorem zcJ {w:World} {lo hi n c:Nat} {A:Option Addr} {l:List ByteArray} {x:ByteArray}(h:Reads w lo hi 1 A n (strs l)) :
  Calls Tryz.prog 201 #[.slice A n c,.string x] w fun e w'=>e=.returned (.bool (memB l x))∧w=w':=by
 have hn:=h.len
 have hl:l.length=n:=by have:=h.length;rw [zbt] at this;omega
 have Hl:=hide hl
 clear hl
 go_enter Tryz.func201,Tryz.ntmps201
 go_wp2_with fail
 go_loop [5] (fun iv=>∃ i:Nat,iv=.int .i64 i∧i≤n∧Hid (∀ j,j<i→l[j]?≠some x)) (fun iv=>n - (intOf iv).toNat)
 case atStart=>exact⟨0,rfl,Nat.zero_le _,hide (fun j h=>by omega)⟩
 case round =>
  obtain⟨i,rfl,hi,hdone⟩:=hrel
  by_cases hlt:i<n
  ·have hlt':(i:Int)<(n:Int):=by omega
   obtain⟨ad,y,rfl,_,_,hy,cy⟩:=h.str hlt
   by_cases he:y=x
   ·subst he
    have hb:=hide (zdz.2 (List.mem_of_getElem? hy.out))
    go_wp2_with fail
    go_ret
    exact⟨zi (by rw [hb.out]),rfl⟩
   ·have He:=hide he
    have htest:=str_ne he
    clear he
    go_wp2_with fail
    go_round
    case rel=>exact⟨i+1,by go_num,by omega,hide (fun j hj=>by
     rcases Nat.lt_or_eq_of_le (Nat.le_of_lt_succ hj) with h1|rfl
     ·exact hdone.out j h1
     ·rw [hy.out];intro h;exact He.out (Option.some.inj h))⟩
    case measure=>simp [intOf];omega
  ·obtain rfl:i=n:=by omega
   have hb:=hide (show memB l x=false by
    rw [zcj]
    intro hx
    obtain⟨j,hj⟩:=List.getElem?_of_mem hx
    exact hdone.out j (by have:=(List.getElem?_eq_some_iff.1 hj).1;have:=Hl.out;omega) hj)
   go_wp2_with fail
   go_ret
   exact⟨zi (by rw [hb.out]),rfl⟩
def rowM (f:ByteArray→Bool) (cols:List ByteArray) (x:ByteArray):List Bool:=cols.map fun c=>f (x++c)
def mkB (b:Bool):ByteArray:=if b then ⟨#[43]⟩ else ⟨#[45]⟩
def mkS (bs:List Bool):ByteArray:=bs.foldl (fun o b=>o++mkB b) ByteArray.empty
theorem mkS_snoc (bs:List Bool) (b:Bool):mkS (bs++[b])=mkS bs++mkB b:=by simp [mkS]
theorem zfE:∀ (bs:List Bool),(mkS bs).data.toList=bs.map fun b=>if b then 43 else 45:=by
 have key:∀ (bs:List Bool) (o:ByteArray),(bs.foldl (fun o b=>o++mkB b) o).data.toList=o.data.toList++bs.map fun b=>if b then 43 else 45:=by
  intro bs
  induction bs with
  |nil=>intro o;simp
  |cons b r ih =>
   intro o
   rw [List.foldl_cons,ih,ByteArray.data_append,Array.toList_append,List.append_assoc,List.map_cons]
   cases b<;>rfl
 intro bs
 unfold mkS
 rw [key]
 rfl
theorem map_inj' {α β:Type} {f:α→β}(hf:∀ x y,f x=f y→x=y):∀ {a b:List α},a.map f=b.map f→a=b
 |[],[],_=>rfl
 |[],_ :: _,h=>by simp at h
 |_ :: _,[],h=>by simp at h
 |x :: a,y :: b,h=>by
  simp only [List.map_cons,List.cons.injEq] at h
  rw [hf x y h.1,map_inj' hf h.2]
theorem mkS_inj {a b:List Bool}(h:mkS a=mkS b):a=b:=by
 have h1:(mkS a).data.toList=(mkS b).data.toList:=by rw [h]
 rw [zfE,zfE] at h1
 exact map_inj' (fun x y=>by cases x<;>cases y<;>simp) h1
theorem mkS_size (bs:List Bool):(mkS bs).size=bs.length:=by
 have h:=congrArg List.length (zfE bs)
 rw [List.length_map,Array.length_toList] at h
 exact h
section
variable {w W:World} {n c m d m' d' L:Nat} {A B B':Option Addr} {s:Sys} {p:Aut}
set_option maxRecDepth 100000 in
theorem zen {C:Option Addr} {nc cc lo hi:Nat} {cols:List ByteArray} {x:ByteArray}(h:Tch w A n B m B' m' s p L)(hC:Reads w lo hi 1 C nc (strs cols))(hc:nc≤1000)(hx:x.size≤1000000)(hcs:∀ y∈cols,y.size≤1000000) :
  Calls Tryz.prog 145 #[.agg #[.bool false,.int .i64 0,.slice none 0 0,.slice none 0 0,.int .i64 s.al,.int .i64 s.st,.slice A n c,.int .i64 p.al,.slice B m d,.slice B' m' d',.int .i64 L],.slice C nc cc,.string x] w fun e w'=>e=.returned (.string (mkS (rowM (zy s p L) cols x)))∧Ext w w':=by
 have hl:cols.length=nc:=by have:=hC.length;rw [zbt] at this;omega
 have HV:=hide (fun W (hW:Ext w W) (y:ByteArray) hy=>zdu (c:=c) (d:=d) (d':=d') (t:=y) (h.ext hW) hy)
 have HC:=hide (fun W (hW:Ext w W)=>hC.ext hW)
 have Hl:=hide hl
 have Hcs:=hide hcs
 have hw1:Ext w (w.alloc (.cells #[.bool false,.int .i64 0,.slice none 0 0,.slice none 0 0,.int .i64 s.al,.int .i64 s.st,.slice A n c,.int .i64 p.al,.slice B m d,.slice B' m' d',.int .i64 L] 100)):=(Ext.refl _).alloc _
 have b1:=Blk.new w 100 #[.bool false,.int .i64 0,.slice none 0 0,.slice none 0 0,.int .i64 s.al,.int .i64 s.st,.slice A n c,.int .i64 p.al,.slice B m d,.slice B' m' d',.int .i64 L]
 clear h hC hl hcs
 go_enter Tryz.func145,Tryz.ntmps145
 go_upto_region 1 with fail
 generalize w.alloc (.cells #[.bool false,.int .i64 0,.slice none 0 0,.slice none 0 0,.int .i64 s.al,.int .i64 s.st,.slice A n c,.int .i64 p.al,.slice B m d,.slice B' m' d',.int .i64 L] 100)=w1 at *
 have CB:=b1.cells
 go_wp2_with fail
 go_loopw [7,8] (fun v iv wr=>∃ (k:Nat) (o:ByteArray),iv=.int .i64 k∧k≤nc∧v=.string o∧o.size≤k∧Hid (o=mkS (rowM (zy s p L) (cols.take k) x))∧Ext w1 wr) (fun _ iv _=>nc - (intOf iv).toNat)
 case atStart=>exact⟨0,_,rfl,Nat.zero_le _,rfl,by decide,hide rfl,Ext.refl _⟩
 case round =>
  obtain⟨k,o,rfl,hk,rfl,hos,ho,hxr⟩:=hrel
  by_cases hlt:k<nc
  ·have hlt':(k:Int)<(nc:Int):=by omega
   obtain⟨ad,y,rfl,_,_,hy,cy⟩:=(HC.out wr (hw1.trans hxr)).str hlt
   have hys:=Hcs.out y (List.mem_of_getElem? hy.out)
   have CY:∀ W,Ext wr W→W.cell? (ad.add k)=some (.string y):=fun W hW=>hW.cell_some cy
   have CBr:∀ W,Ext wr W→∀ q,W.cell? ⟨w.heap.size,q,none⟩=#[Value.bool false,.int .i64 0,.slice none 0 0,.slice none 0 0,.int .i64 s.al,.int .i64 s.st,.slice A n c,.int .i64 p.al,.slice B m d,.slice B' m' d',.int .i64 L][q]?:=fun W hW=>CB W (hxr.trans hW)
   have hsz:¬ 9223372036854775807<x.size+y.size:=by omega
   have hsz2:¬ 9223372036854775807<o.size+1:=by omega
   have hsum:(x++y).size≤9223372036854775807:=by rw [ByteArray.size_append];omega
   have HVr:=hide (fun W (hW:Ext wr W)=>HV.out W ((hw1.trans hxr).trans hW) (x++y) hsum)
   have hww:=Ext.refl wr
   have hst:=hide (show mkS (rowM (zy s p L) (cols.take (k+1)) x)=o++mkB (zy s p L (x++y)) by
    rw [List.take_add_one,hy.out,rowM,List.map_append,← rowM,ho.out,Option.toList_some,List.map_singleton,mkS_snoc])
   obtain⟨bv,hbv⟩:∃ bv,Hid (zy s p L (x++y)=bv):=⟨_,rfl⟩
   rw [hbv.out] at HVr hst
   clear cy hsum
   go_wp2_with fail
   go_region_held3 (fun W=>Ext wr W) (first|assumption|(refine Ext.drew ?_;assumption)|(refine Ext.trans ?_ (by assumption);assumption)|(refine Ext.trans ?_ (by assumption);refine Ext.drew ?_;assumption)) (first
    |(go_at_call 187;refine (HVr.out _ ?_).mono ?_;(first|assumption|(refine Ext.drew ?_;assumption));rintro e w7 ⟨rfl,hx7⟩))
   have hx17:Ext w1 w7:=hxr.trans (by assumption)
   cases bv
   all_goals
    go_wp2_with fail
    go_roundw
    case rel=>exact⟨k+1,_,by go_num,by omega,rfl,by rw [ByteArray.size_append];show o.size+1≤k+1;omega,hst.symm,hx17⟩
    case measure=>simp [intOf];omega
  ·obtain rfl:k=nc:=by omega
   have hfin:=hide (show mkS (rowM (zy s p L) cols x)=o by rw [ho.out,List.take_of_length_le (by have:=Hl.out;omega)])
   go_wp2_with fail
   go_ret
   exact⟨by rw [hfin.out];rfl,hw1.trans hxr⟩
end
set_option maxHeartbeats 4000000
def RetStrL (w:World) (l:List ByteArray) (e:Ending) (w':World):Prop:=
 ∃ A c,e=.returned (.slice A l.length c)∧w'.ownsRow w.heap.size 9 1 (.slice A l.length c) l.length (strs l)∧Ext w w'
def zbJ (f:ByteArray→Bool) (cols words:List ByteArray):List ByteArray:=words.map fun x=>mkS (rowM f cols x)
theorem strs_snoc (l:List ByteArray) (x:ByteArray):strs (l++[x])=strs l++[.string x]:=by simp [strs]
section
variable {w W:World} {n c m d m' d' L:Nat} {A B B':Option Addr} {s:Sys} {p:Aut}
set_option maxRecDepth 100000 in
theorem zdp {C R:Option Addr} {nc cc nr cr lo hi lo2 hi2:Nat} {cols rows:List ByteArray}(h:Tch w A n B m B' m' s p L)(hC:Reads w lo hi 1 C nc (strs cols))(hR:Reads w lo2 hi2 1 R nr (strs rows))(hc:nc≤1000)(hr:nr≤1000)(hcs:∀ y∈cols,y.size≤1000000)(hrs:∀ y∈rows,y.size≤1000000) :
  Calls Tryz.prog 143 #[.agg #[.bool false,.int .i64 0,.slice none 0 0,.slice none 0 0,.int .i64 s.al,.int .i64 s.st,.slice A n c,.int .i64 p.al,.slice B m d,.slice B' m' d',.int .i64 L],.slice C nc cc,.slice R nr cr] w (RetStrL w (zbJ (zy s p L) cols rows)):=by
 have hl:rows.length=nr:=by have:=hR.length;rw [zbt] at this;omega
 have HV:=hide (fun W (hW:Ext w W) (y:ByteArray) hy=>zen (c:=c) (d:=d) (d':=d') (cc:=cc) (x:=y) (h.ext hW) (hC.ext hW) hc hy hcs)
 have HR:=hide (fun W (hW:Ext w W)=>hR.ext hW)
 have Hl:=hide hl
 have Hrs:=hide hrs
 have hw1:Ext w (w.alloc (.cells #[.bool false,.int .i64 0,.slice none 0 0,.slice none 0 0,.int .i64 s.al,.int .i64 s.st,.slice A n c,.int .i64 p.al,.slice B m d,.slice B' m' d',.int .i64 L] 100)):=(Ext.refl _).alloc _
 have b1:=Blk.new w 100 #[.bool false,.int .i64 0,.slice none 0 0,.slice none 0 0,.int .i64 s.al,.int .i64 s.st,.slice A n c,.int .i64 p.al,.slice B m d,.slice B' m' d',.int .i64 L]
 clear h hC hR hl hrs hcs
 go_enter Tryz.func143,Tryz.ntmps143
 go_upto_region 1 with fail
 generalize w.alloc (.cells #[.bool false,.int .i64 0,.slice none 0 0,.slice none 0 0,.int .i64 s.al,.int .i64 s.st,.slice A n c,.int .i64 p.al,.slice B m d,.slice B' m' d',.int .i64 L] 100)=w1 at *
 have CB:=b1.cells
 go_wp2_with fail
 go_loopw [7,8] (fun v iv wr=>∃ k:Nat,iv=.int .i64 k∧k≤nr∧wr.ownsRow w1.heap.size 9 1 v k (strs (zbJ (zy s p L) cols (rows.take k)))∧Ext w1 wr) (fun _ iv _=>nr - (intOf iv).toNat)
 case atStart=>exact⟨0,rfl,Nat.zero_le _,World.ownsRow_lit w1 #[] 0 (Nat.le_refl _) (by unfold maxLen;omega) rfl,(Ext.refl _).alloc _⟩
 case round =>
  obtain⟨k,rfl,hk,hown,hxr⟩:=hrel
  by_cases hlt:k<nr
  ·have hlt':(k:Int)<(nr:Int):=by omega
   obtain⟨ad,y,rfl,_,_,hy,cy⟩:=(HR.out wr (hw1.trans hxr)).str hlt
   have hys:=Hrs.out y (List.mem_of_getElem? hy.out)
   have CY:∀ W,Ext wr W→W.cell? (ad.add k)=some (.string y):=fun W hW=>hW.cell_some cy
   have CBr:∀ W,Ext wr W→∀ q,W.cell? ⟨w.heap.size,q,none⟩=#[Value.bool false,.int .i64 0,.slice none 0 0,.slice none 0 0,.int .i64 s.al,.int .i64 s.st,.slice A n c,.int .i64 p.al,.slice B m d,.slice B' m' d',.int .i64 L][q]?:=fun W hW=>CB W (hxr.trans hW)
   have HVr:=hide (fun W (hW:Ext wr W)=>HV.out W ((hw1.trans hxr).trans hW) y hys)
   have hww:=Ext.refl wr
   have hst:=hide (show strs (zbJ (zy s p L) cols (rows.take (k+1)))=strs (zbJ (zy s p L) cols (rows.take k))++[.string (mkS (rowM (zy s p L) cols y))] by
    rw [List.take_add_one,hy.out,zbJ,List.map_append,← zbJ,Option.toList_some,List.map_singleton,strs_snoc])
   generalize mkS (rowM (zy s p L) cols y)=z at *
   clear cy
   go_wp2_with fail
   refine uR (fun X=>Ext wr X) [9] (OrdU.of [0,1,2,3,4,5,6,7,8,9,10]) ?_
   refine uQ ?_
   (refine zb rfl rfl rfl (fun K hK=>?_);go_simp)
   refine (HVr.out _ hww.drew).mono ?_
   rintro e w5 ⟨rfl,hx5⟩
   have hxr5:Ext wr w5:=hww.drew.trans hx5
   refine hK.out _ _ hxr5 ?_
   refine pT ?_
   refine uQ ?_
   (refine zb rfl rfl rfl (fun K hK=>?_);go_simp)
   refine hK.out _ _ (hxr5.alloc _) ?_
   refine pT ?_
   (refine za rfl rfl rfl rfl (fun K hK=>?_))
   refine zaQ w1 w5 _ _ _ rfl 9 _ 1 16 Tryz.underlying101 zm rfl (by decide) _ k (strs (zbJ (zy s p L) cols (rows.take k))) _ _ rfl rfl (hxr.trans hxr5).size (zg hown hxr5) rfl (zbY _) (by unfold maxLen;omega) (by omega) ?_
   intro g8 cap8 w8 hown8 hg8 hat8 hlt8
   refine hK.out _ _ ?_
   refine pT ?_
   refine uQ ?_
   refine zd ?_
   go_wp2_with fail
   go_roundw
   case rel=>exact⟨k+1,by go_num,by omega,by rw [hst.out];exact hown8,(hxr.trans hxr5).grown hg8 (fun k hk=>(hown.lt k hk).1)⟩
   case measure=>simp [intOf];omega
  ·obtain rfl:k=nr:=by omega
   obtain⟨A5,c5,rfl⟩:=zh hown
   have hfin:=hide (show (rows.take k)=rows from List.take_of_length_le (by have:=Hl.out;omega))
   rw [hfin.out] at hown
   have hlen:=hide (show (zbJ (zy s p L) cols rows).length=k by rw [zbJ,List.length_map];exact Hl.out)
   go_wp2_with fail
   go_ret
   exact⟨A5,c5,by rw [hlen.out];rfl,by rw [hlen.out];exact zn hown hw1.size,hw1.trans hxr⟩
theorem zfp {x:ByteArray}(h:Tch w A n B m B' m' s p L)(hx:x.size≤9223372036854775807) :
  Calls Tryz.prog 199 #[.agg #[.bool false,.int .i64 0,.slice none 0 0,.slice none 0 0,.int .i64 s.al,.int .i64 s.st,.slice A n c,.int .i64 p.al,.slice B m d,.slice B' m' d',.int .i64 L],.string x] w fun e w'=>e=.returned (.bool (inB x L&&decide (x.size≤4000)))∧Ext w w':=by
 have HV:=hide (fun W (hW:Ext w W)=>zaK (c:=c) (d:=d) (d':=d') (h.ext hW))
 have hL:=h.lt
 have hw1:Ext w (w.alloc (.cells #[.bool false,.int .i64 0,.slice none 0 0,.slice none 0 0,.int .i64 s.al,.int .i64 s.st,.slice A n c,.int .i64 p.al,.slice B m d,.slice B' m' d',.int .i64 L] 100)):=(Ext.refl _).alloc _
 have b1:=Blk.new w 100 #[.bool false,.int .i64 0,.slice none 0 0,.slice none 0 0,.int .i64 s.al,.int .i64 s.st,.slice A n c,.int .i64 p.al,.slice B m d,.slice B' m' d',.int .i64 L]
 clear h
 cases hin:inB x L
 all_goals
  have Hin:=hide hin
  clear hin
  go_enter Tryz.func199,Tryz.ntmps199
  go_upto_region 1 with fail
  generalize w.alloc (.cells #[.bool false,.int .i64 0,.slice none 0 0,.slice none 0 0,.int .i64 s.al,.int .i64 s.st,.slice A n c,.int .i64 p.al,.slice B m d,.slice B' m' d',.int .i64 L] 100)=w1 at *
  have CB:=b1.cells
  have hww:=Ext.refl w1
  go_wp2_with (first
   |(go_at_call 142;refine (HV.out _ hw1).mono ?_;rintro e w2 ⟨rfl,hx2⟩)
   |(go_at_call 151;refine (zaa hx (by omega)).mono ?_;rw [Hin.out];rintro e w3 ⟨rfl,rfl⟩))
  go_ret
  exact⟨zi (by first|rfl|(rw [Bool.true_and,decide_eq_decide];omega)),hw1.trans hx2⟩
end
def letS (l:Nat):ByteArray:=strOfNums [((97+l:Nat):Int)]
theorem zdv (l:Nat):(letS l).size=1:=strOfNums_size _
structure TabI (L:Nat) (f:ByteArray→Bool) (rows cols:List ByteArray):Prop where
 r1:1≤rows.length
 r12:rows.length≤12
 c1:1≤cols.length
 c20:cols.length≤20
 r0:rows[0]?=some ⟨#[]⟩
 c0:cols[0]?=some ⟨#[]⟩
 rw_:∀ (i:Nat) (x:ByteArray),1≤i→rows[i]?=some x→inB x L=true∧∃ y l,l<6∧x=y++letS l∧y∈rows.take i
 cw:∀ (i:Nat) (x:ByteArray),1≤i→cols[i]?=some x→inB x L=true∧x.size≤4000∧x∉cols.take i
 nd:(rows.map (rowM f cols)).Nodup
section
variable {L:Nat} {f:ByteArray→Bool} {rows cols:List ByteArray}
theorem inB_empty (L:Nat):inB ⟨#[]⟩ L=true:=by unfold inB zdy;rfl
theorem TabI.rsz (h:TabI L f rows cols):∀ (i:Nat) (x:ByteArray),rows[i]?=some x→x.size≤i:=by
 intro i
 induction i using Nat.strongRecOn with
 |ind i ih =>
  intro x hx
  rcases Nat.eq_zero_or_pos i with rfl|hi
  ·rw [h.r0] at hx
   obtain rfl:=Option.some.inj hx
   exact Nat.le_refl _
  ·obtain⟨-,y,l,hl,rfl,hy⟩:=h.rw_ i x hi hx
   obtain⟨j,hj⟩:=List.getElem?_of_mem hy
   have hji:j<i:=by have:=(List.getElem?_eq_some_iff.1 hj).1;rw [List.length_take] at this;omega
   rw [List.getElem?_take_of_lt hji] at hj
   have:=ih j hji y hj
   rw [ByteArray.size_append,zdv l]
   omega
theorem TabI.rin (h:TabI L f rows cols) {x:ByteArray}(hx:x∈rows):inB x L=true∧x.size≤12:=by
 obtain⟨i,hi⟩:=List.getElem?_of_mem hx
 have hil:=(List.getElem?_eq_some_iff.1 hi).1
 refine⟨?_,by have:=h.rsz i x hi;have:=h.r12;omega⟩
 rcases Nat.eq_zero_or_pos i with rfl|h0
 ·rw [h.r0] at hi
  obtain rfl:=Option.some.inj hi
  exact inB_empty L
 ·exact (h.rw_ i x h0 hi).1
theorem TabI.cin (h:TabI L f rows cols) {x:ByteArray}(hx:x∈cols):inB x L=true∧x.size≤4000:=by
 obtain⟨i,hi⟩:=List.getElem?_of_mem hx
 rcases Nat.eq_zero_or_pos i with rfl|h0
 ·rw [h.c0] at hi
  obtain rfl:=Option.some.inj hi
  exact⟨inB_empty L,by decide⟩
 ·exact⟨(h.cw i x h0 hi).1,(h.cw i x h0 hi).2.1⟩
theorem rowsM_nodup (h:TabI L f rows cols):(zbJ f cols rows).Nodup:=by
 have h1:=h.nd
 unfold zbJ
 have h2:rows.map (fun x=>mkS (rowM f cols x))=(rows.map (rowM f cols)).map mkS:=by rw [List.map_map];rfl
 rw [h2]
 exact List.pairwise_map.2 (h1.imp fun hne e=>hne (mkS_inj e))
end
set_option maxHeartbeats 4000000
def TabAt (w:World) (R:Option Addr) (nr:Nat) (C:Option Addr) (nc:Nat) (rows cols:List ByteArray):Prop:=
 ∃ lo hi lo2 hi2,Reads w lo hi 1 R nr (strs rows)∧Reads w lo2 hi2 1 C nc (strs cols)
theorem TabAt.ext {w W:World} {R C:Option Addr} {nr nc:Nat} {rows cols:List ByteArray}(h:TabAt w R nr C nc rows cols)(hx:Ext w W):TabAt W R nr C nc rows cols:=by
 obtain⟨lo,hi,lo2,hi2,h1,h2⟩:=h
 exact⟨lo,hi,lo2,hi2,h1.ext hx,h2.ext hx⟩
theorem TabAt.nr {w:World} {R C:Option Addr} {nr nc:Nat} {rows cols:List ByteArray}(h:TabAt w R nr C nc rows cols):rows.length=nr∧cols.length=nc:=by
 obtain⟨lo,hi,lo2,hi2,h1,h2⟩:=h
 have e1:=h1.length
 have e2:=h2.length
 rw [zbt] at e1 e2
 omega
theorem Reads.takeS {w:World} {lo hi n k:Nat} {A:Option Addr} {l:List ByteArray}(h:Reads w lo hi 1 A n (strs l))(hk:k≤n):Reads w lo hi 1 A k (strs (l.take k)):=by
 have hl:=h.length
 rw [zbt] at hl
 refine⟨by rw [zbt,List.length_take];omega,by have:=h.len;omega,fun h0=>?_⟩
 obtain⟨ad,e,h1,h2,h3⟩:=h.2.2 (by omega)
 refine⟨ad,e,h1,h2,fun j u hu=>h3 j u ?_⟩
 unfold strs at hu ⊢
 rw [List.map_take] at hu
 have hj:j<k:=by have:=(List.getElem?_eq_some_iff.1 hu).1;rw [List.length_take] at this;omega
 rwa [List.getElem?_take_of_lt hj] at hu
theorem str_front (y:ByteArray) (l:Nat):(y++letS l).extract 0 y.size=y:=by
 rw [ByteArray.extract_append_eq_left rfl]
section
variable {w W:World} {L nr nc cr cc:Nat} {R C:Option Addr} {rows cols:List ByteArray} {f:ByteArray→Bool}
set_option maxRecDepth 100000 in
theorem zhv (hT:TabAt w R nr C nc rows cols)(hI:TabI L f rows cols)(hL:L<64)(hcr:nr≤cr)(hcc:nc≤cc) :
  Calls Tryz.prog 210 #[.int .i64 L,.agg #[.slice R nr cr,.slice C nc cc]] w fun e w'=>e=.returned (.bool true)∧Ext w w':=by
 obtain⟨e1,e2⟩:=hT.nr
 have hr1:=hI.r1;have hr12:=hI.r12;have hc1:=hI.c1;have hc20:=hI.c20
 rw [e1] at hr1 hr12
 rw [e2] at hc1 hc20
 obtain⟨lo,hi,lo2,hi2,h1,h2⟩:=hT
 obtain⟨ad,x,rfl,_,_,hx,cx⟩:=h1.str (show 0<nr by omega)
 obtain⟨bd,y,rfl,_,_,hy,cy⟩:=h2.str (show 0<nc by omega)
 obtain rfl:=Option.some.inj (hx.out.symm.trans hI.r0)
 obtain rfl:=Option.some.inj (hy.out.symm.trans hI.c0)
 rw [addr_zero] at cx cy
 have H1:=hide (fun W (hW:Ext w W)=>h1.ext hW)
 have H2:=hide (fun W (hW:Ext w W)=>h2.ext hW)
 have HI:=hide hI
 have hw1:Ext w (w.alloc (.cells #[.slice (some ad) nr cr,.slice (some bd) nc cc] 103)):=(Ext.refl _).alloc _
 have b1:=Blk.new w 103 #[.slice (some ad) nr cr,.slice (some bd) nc cc]
 have CX:=fun W (hW:Ext w W)=>hW.cell_some cx
 have CY:=fun W (hW:Ext w W)=>hW.cell_some cy
 clear h1 h2 hI hx hy cx cy e1 e2
 go_enter Tryz.func210,Tryz.ntmps210
 go_upto_region 1 with fail
 generalize w.alloc (.cells #[.slice (some ad) nr cr,.slice (some bd) nc cc] 103)=w1 at *
 have k1:=b1.cell
 have cx:=CX _ hw1
 have cy:=CY _ hw1
 have hww:=Ext.refl w1
 go_wp2_with fail
 go_loopw [7] (fun iv wr=>∃ k:Nat,1≤k∧k≤nr∧iv=.int .i64 k∧Ext w1 wr) (fun iv _=>nr - (intOf iv).toNat)
 case atStart=>exact⟨1,Nat.le_refl _,hr1,rfl,hww⟩
 case round =>
  clear hww k1 cx cy
  obtain⟨k,hk1,hk,rfl,hxr⟩:=hrel
  by_cases hlt:k<nr
  ·have hlt':(k:Int)<(nr:Int):=by omega
   have hkc:(k:Int)≤(cr:Int):=by omega
   obtain⟨ad1,x,e,_,_,hx,cx⟩:=(H1.out wr (hw1.trans hxr)).str hlt
   obtain rfl:=Option.some.inj e
   obtain⟨hin,y,l,hl,hxy,hy⟩:=HI.out.rw_ k x hk1 hx.out
   have hsz:x.size=y.size+1:=by rw [hxy,ByteArray.size_append,zdv]
   have hxt:x.extract 0 y.size=y:=by rw [hxy,str_front]
   have h0:0<x.size:=by omega
   have hys:y.size≤12:=by have:=HI.out.rsz k x hx.out;omega
   have hmem:=hide (zdz.2 hy)
   have HRt:=hide (fun W (hW:Ext w W)=>(H1.out W hW).takeS hk)
   have Hin:=hide hin
   have CXr:∀ W,Ext wr W→W.cell? (ad.add k)=some (.string x):=fun W hW=>hW.cell_some cx
   have CB:∀ W,Ext wr W→∀ q,W.cell? ⟨w.heap.size,q,none⟩=#[Value.slice (some ad) nr cr,.slice (some bd) nc cc][q]?:=fun W hW=>(b1.ext (hxr.trans hW)).cell
   have hww:=Ext.refl wr
   have hwr:IntKind.i64.wrap (y.size:Int)=(y.size:Int):=IntWalk.i64_in _ (by omega)
   have hne:((y.size:Int)+1==0)=false:=by simp;omega
   have hyx:(y.size:Int)≤(y.size:Int)+1:=by omega
   clear hin hy hxy cx hx hl e
   go_wp2_with fail
   refine uR (fun X=>Ext wr X) [] (OrdU.of [0,1,2,3,4,5,6,7,8,9,10,11,12,13,14,15,16,17,18,19,20,21]) ?_
   refine uQ ?_
   (refine zb rfl rfl rfl (fun K hK=>?_);go_simp)
   refine (zaa (by omega) (by omega)).mono ?_
   rw [Hin.out]
   rintro e w3 ⟨rfl,rfl⟩
   refine hK.out _ _ hww.drew ?_
   refine pT ?_
   refine uQ ?_
   (refine zb rfl rfl rfl (fun K hK=>?_);go_simp)
   refine (zcJ (HRt.out _ (hw1.trans (hxr.trans hww.drew)))).mono ?_
   rw [hmem.out]
   rintro e w4 ⟨rfl,rfl⟩
   refine hK.out _ _ hww.drew ?_
   refine pT ?_
   refine uQ ?_
   refine zd ?_
   go_wp2_with fail
   go_roundw
   case rel=>exact⟨k+1,by omega,by omega,by go_num,hxr.trans hww.drew⟩
   case measure=>simp [intOf];omega
  ·have hge:(nr:Int)≤(k:Int):=by omega
   go_wp2_with fail
   go_loopw [9] (fun iv wr=>∃ k:Nat,1≤k∧k≤nc∧iv=.int .i64 k∧Ext w1 wr) (fun iv _=>nc - (intOf iv).toNat)
   case atStart=>exact⟨1,Nat.le_refl _,hc1,rfl,hxr⟩
   case round =>
    clear hxr hge hlt hk hk1
    obtain⟨k,hk1,hk,rfl,hxr⟩:=hrel
    by_cases hlt:k<nc
    ·have hlt':(k:Int)<(nc:Int):=by omega
     have hkc:(k:Int)≤(cc:Int):=by omega
     obtain⟨bd1,x,e,_,_,hx,cx⟩:=(H2.out wr (hw1.trans hxr)).str hlt
     obtain rfl:=Option.some.inj e
     obtain⟨hin,hsz,hni⟩:=HI.out.cw k x hk1 hx.out
     have hsz':¬ (4000<(x.size:Int)):=by omega
     have hmem:=hide (zcj.2 hni)
     have HRt:=hide (fun W (hW:Ext w W)=>(H2.out W hW).takeS hk)
     have Hin:=hide hin
     have CXr:∀ W,Ext wr W→W.cell? (bd.add k)=some (.string x):=fun W hW=>hW.cell_some cx
     have CB:∀ W,Ext wr W→∀ q,W.cell? ⟨w.heap.size,q,none⟩=#[Value.slice (some ad) nr cr,.slice (some bd) nc cc][q]?:=fun W hW=>(b1.ext (hxr.trans hW)).cell
     have hww:=Ext.refl wr
     clear hin hni cx hx e
     go_wp2_with (first
      |(go_at_call 151;refine (zaa (by omega) (by omega)).mono ?_;rw [Hin.out];rintro e w3 ⟨rfl,rfl⟩)
      |(go_at_call 201;refine (zcJ (HRt.out _ (hw1.trans hxr))).mono ?_;rw [hmem.out];rintro e w3 ⟨rfl,rfl⟩))
     go_roundw
     case rel=>exact⟨k+1,by omega,by omega,by go_num,hxr⟩
     case measure=>simp [intOf];omega
    ·have hge:(nc:Int)≤(k:Int):=by omega
     go_wp2_with fail
     go_ret
     exact⟨rfl,hw1.trans hxr⟩
end
set_option maxHeartbeats 4000000
theorem TabI.rsz' {L:Nat} {f:ByteArray→Bool} {rows cols:List ByteArray}(h:TabI L f rows cols):(∀ y∈rows,y.size≤1000000)∧∀ y∈cols,y.size≤1000000:=
 ⟨fun y hy=>by have:=(h.rin hy).2;omega,fun y hy=>by have:=(h.cin hy).2;omega⟩
section
variable {w W:World} {n c m d m' d' L:Nat} {A B B':Option Addr} {s:Sys} {p:Aut} {nr nc cr cc:Nat} {R C:Option Addr} {rows cols:List ByteArray}
set_option maxRecDepth 100000 in
theorem zbC (h:Tch w A n B m B' m' s p L)(hT:TabAt w R nr C nc rows cols)(hI:TabI L (zy s p L) rows cols)(hcr:nr≤cr)(hcc:nc≤cc) :
  Calls Tryz.prog 184 #[.agg #[.bool false,.int .i64 0,.slice none 0 0,.slice none 0 0,.int .i64 s.al,.int .i64 s.st,.slice A n c,.int .i64 p.al,.slice B m d,.slice B' m' d',.int .i64 L],.agg #[.slice R nr cr,.slice C nc cc]] w fun e w'=>e=.returned (.bool true)∧Ext w w':=by
 obtain⟨e1,e2⟩:=hT.nr
 have hr12:=hI.r12;have hc20:=hI.c20
 rw [e1] at hr12
 rw [e2] at hc20
 have HA:=hide (fun W (hW:Ext w W)=>zaK (c:=c) (d:=d) (d':=d') (h.ext hW))
 have HS:=hide (fun W (hW:Ext w W)=>zhv (cr:=cr) (cc:=cc) (hT.ext hW) hI h.lt hcr hcc)
 obtain⟨lo,hi,lo2,hi2,h1,h2⟩:=hT
 have HR:=hide (fun W (hW:Ext w W)=>zdp (c:=c) (d:=d) (d':=d') (cc:=cc) (cr:=cr) (h.ext hW) (h2.ext hW) (h1.ext hW) (by omega) (by omega) hI.rsz'.2 hI.rsz'.1)
 have hnd:=hide (rowsM_nodup hI)
 have hlen:(zbJ (zy s p L) cols rows).length=nr:=by rw [zbJ,List.length_map];exact e1
 generalize zbJ (zy s p L) cols rows=zs at *
 have hx0:Ext w ((w.alloc (.cells #[.bool false,.int .i64 0,.slice none 0 0,.slice none 0 0,.int .i64 s.al,.int .i64 s.st,.slice A n c,.int .i64 p.al,.slice B m d,.slice B' m' d',.int .i64 L] 100)).alloc (.cells #[.slice R nr cr,.slice C nc cc] 103)):=((Ext.refl _).alloc _).alloc _
 obtain⟨b1,b2⟩:=zV (Ext.refl ((w.alloc (.cells #[.bool false,.int .i64 0,.slice none 0 0,.slice none 0 0,.int .i64 s.al,.int .i64 s.st,.slice A n c,.int .i64 p.al,.slice B m d,.slice B' m' d',.int .i64 L] 100)).alloc (.cells #[.slice R nr cr,.slice C nc cc] 103)))
 clear h h1 h2 hI e1 e2
 go_enter Tryz.func184,Tryz.ntmps184
 go_upto_region 1 with fail
 generalize (w.alloc (.cells #[.bool false,.int .i64 0,.slice none 0 0,.slice none 0 0,.int .i64 s.al,.int .i64 s.st,.slice A n c,.int .i64 p.al,.slice B m d,.slice B' m' d',.int .i64 L] 100)).alloc (.cells #[.slice R nr cr,.slice C nc cc] 103)=w1 at *
 have CB:=b1.cells
 have CT:=b2.cells
 have hww:=Ext.refl w1
 refine uR (fun X=>Ext w1 X) [] (OrdU.of [0,2,1,3,4]) ?_
 refine uQ ?_
 (refine zb rfl rfl rfl (fun K hK=>?_);go_simp)
 refine (HA.out _ (hx0.trans hww.drew)).mono ?_
 rintro e w2 ⟨rfl,hx2⟩
 have hx12:Ext w1 w2:=hww.drew.trans hx2
 refine hK.out _ _ hx12 ?_
 refine pT ?_
 refine uQ ?_
 (refine zb rfl rfl rfl (fun K hK=>?_);go_simp)
 refine (HS.out _ (hx0.trans hx12)).mono ?_
 rintro e w3 ⟨rfl,hx3⟩
 have hx13:=hx12.trans hx3
 refine hK.out _ _ hx13 ?_
 refine pT ?_
 refine uQ ?_
 refine zd ?_
 clear hx12 hx2 hx3
 go_wp2_with (first|(go_at_call 143;refine (HR.out _ (hx0.trans hx13)).mono ?_;rintro e w4 ⟨G,g,rfl,hown,hx4⟩))
 rw [hlen] at hown
 have hlen2:=hide hlen
 clear hlen
 have hx14:=hx13.trans hx4
 have hrd:=Reads.of_own hown
 have Hrd:=hide (fun W (hW:Ext w4 W)=>hrd.ext hW)
 have hng:nr≤g:=by
  rcases hown.2 with ⟨e,h0⟩|⟨g0,cap,cur,e,_,_,hcap,_⟩
  ·omega
  ·injection e with _ _ h3;omega
 clear hx13 hx4 hown hrd
 go_loopw [6] (fun iv wr=>∃ k:Nat,k≤nr∧iv=.int .i64 k∧Ext w4 wr) (fun iv _=>nr - (intOf iv).toNat)
 case atStart=>exact⟨0,Nat.zero_le _,rfl,Ext.refl _⟩
 case round =>
  obtain⟨k,hk,rfl,hxr⟩:=hrel
  by_cases hlt:k<nr
  ·have hlt':(k:Int)<(nr:Int):=by omega
   have hkg:(k:Int)≤(g:Int):=by omega
   obtain⟨ad,x,rfl,_,_,hx,cx⟩:=(Hrd.out wr hxr).str hlt
   have hmem:=hide (show memB (zs.take k) x=false by
    rw [zcj]
    intro hm
    obtain⟨j,hj⟩:=List.getElem?_of_mem hm
    have hjk:j<k:=by have:=(List.getElem?_eq_some_iff.1 hj).1;rw [List.length_take] at this;omega
    rw [List.getElem?_take_of_lt hjk] at hj
    have:=(List.getElem?_inj (i:=j) (j:=k) (by have:=hlen2.out;omega) hnd.out).1 (hj.trans hx.out.symm)
    omega)
   have HRt:=hide (fun W (hW:Ext w4 W)=>(Hrd.out W hW).takeS hk)
   have CX:∀ W,Ext wr W→W.cell? (ad.add k)=some (.string x):=fun W hW=>hW.cell_some cx
   have hww:=Ext.refl wr
   clear cx hx
   go_wp2_with fail
   refine uR (fun X=>Ext wr X) [] (OrdU.of [0,1,2,3,4,5,6,7]) ?_
   refine uQ ?_
   (refine zb rfl rfl rfl (fun K hK=>?_);go_simp)
   refine (zcJ (HRt.out _ (hxr.trans hww.drew))).mono ?_
   rw [hmem.out]
   rintro e w5 ⟨rfl,rfl⟩
   refine hK.out _ _ hww.drew ?_
   refine pT ?_
   refine uQ ?_
   refine zd ?_
   go_wp2_with fail
   go_roundw
   case rel=>exact⟨k+1,by omega,by go_num,hxr.trans hww.drew⟩
   case measure=>simp [intOf];omega
  ·have hge:(nr:Int)≤(k:Int):=by omega
   go_wp2_with fail
   go_ret
   exact⟨rfl,hx0.trans (hx14.trans hxr)⟩
def candL (L:Nat) (rows:List ByteArray):List ByteArray:=rows.flatMap fun r=>(letters L 6).map fun l=>r++letS l
noncomputable def zbH (L:Nat) (f:ByteArray→Bool) (rows cols:List ByteArray):Option ByteArray:=(candL L rows).find? fun x=>!memB (zbJ f cols rows) (mkS (rowM f cols x))
theorem find_pre {α:Type} {P:α→Bool} {pre post l:List α} {x:α}(hl:l=pre++x :: post)(hp:∀ y∈pre,P y=false)(hx:P x=true):l.find? P=some x:=by
 rw [hl,List.find?_append,List.find?_eq_none.2 (fun y hy=>by rw [hp y hy];decide),Option.none_or,List.find?_cons_of_pos hx]
theorem open_find {zs cols rows:List ByteArray} {ls:List Nat} {f:ByteArray→Bool} {i k l:Nat} {x y:ByteArray}(hx:rows[i]?=some x)(hl:ls[k]?=some l)(hy:x++letS l=y)
  (hd:∀ y∈(rows.take i).flatMap (fun r=>ls.map fun l=>r++letS l),memB zs (mkS (rowM f cols y))=true) (hdk:∀ y∈(ls.take k).map (fun l=>x++letS l),memB zs (mkS (rowM f cols y))=true) (hm:memB zs (mkS (rowM f cols y))=false) :
  (rows.flatMap fun r=>ls.map fun l=>r++letS l).find? (fun x=>!memB zs (mkS (rowM f cols x)))=some y:=by
 have hr:rows=rows.take i++x :: rows.drop (i+1):=by
  obtain⟨h2,h3⟩:=List.getElem?_eq_some_iff.1 hx
  rw [← h3,← List.drop_eq_getElem_cons h2,List.take_append_drop]
 have hlr:ls=ls.take k++l :: ls.drop (k+1):=by
  obtain⟨h2,h3⟩:=List.getElem?_eq_some_iff.1 hl
  rw [← h3,← List.drop_eq_getElem_cons h2,List.take_append_drop]
 have e:ls.map (fun l=>x++letS l)=(ls.take k).map (fun l=>x++letS l)++y :: (ls.drop (k+1)).map (fun l=>x++letS l):=by
  conv=>lhs;rw [hlr]
  rw [List.map_append,List.map_cons,hy]
 refine find_pre (pre:=(rows.take i).flatMap (fun r=>ls.map fun l=>r++letS l)++(ls.take k).map (fun l=>x++letS l)) (post:=(ls.drop (k+1)).map (fun l=>x++letS l)++(rows.drop (i+1)).flatMap (fun r=>ls.map fun l=>r++letS l)) ?_ ?_ ?_
 ·conv=>lhs;rw [hr]
  rw [List.flatMap_append,List.flatMap_cons,e]
  simp only [List.append_assoc,List.cons_append]
 ·intro y' hy'
  show (!memB zs (mkS (rowM f cols y')))=false
  rcases List.mem_append.1 hy' with h1|h1
  ·rw [hd y' h1,Bool.not_true]
  ·rw [hdk y' h1,Bool.not_true]
 ·show (!memB zs (mkS (rowM f cols y)))=true
  rw [hm,Bool.not_false]
theorem zdo {l:Nat}(h1:l<6):Calls Tryz.prog 131 #[.int .i64 l] w fun e w'=>e=.returned (.string (letS l))∧Ext w w':=zdZ h1
set_option maxRecDepth 100000 in
theorem zfj (h:Tch w A n B m B' m' s p L)(hT:TabAt w R nr C nc rows cols)(hI:TabI L (zy s p L) rows cols) :
  Calls Tryz.prog 185 #[.agg #[.bool false,.int .i64 0,.slice none 0 0,.slice none 0 0,.int .i64 s.al,.int .i64 s.st,.slice A n c,.int .i64 p.al,.slice B m d,.slice B' m' d',.int .i64 L],.agg #[.slice R nr cr,.slice C nc cc]] w fun e w'=>e=.returned (.tuple #[.string ((zbH L (zy s p L) rows cols).getD ⟨#[]⟩),.bool (zbH L (zy s p L) rows cols).isSome])∧Ext w w':=by
 obtain⟨e1,e2⟩:=hT.nr
 have hr12:=hI.r12;have hc20:=hI.c20
 rw [e1] at hr12
 rw [e2] at hc20
 have HA:=hide (fun W (hW:Ext w W)=>zaK (c:=c) (d:=d) (d':=d') (h.ext hW))
 obtain⟨lo,hi,lo2,hi2,h1,h2⟩:=hT
 have HR:=hide (fun W (hW:Ext w W)=>zdp (c:=c) (d:=d) (d':=d') (cc:=cc) (cr:=cr) (h.ext hW) (h2.ext hW) (h1.ext hW) (by omega) (by omega) hI.rsz'.2 hI.rsz'.1)
 have HW:=hide (fun W (hW:Ext w W) (y:ByteArray) hy=>zen (c:=c) (d:=d) (d':=d') (cc:=cc) (x:=y) (h.ext hW) (h2.ext hW) (by omega) hy hI.rsz'.2)
 have H1:=hide (fun W (hW:Ext w W)=>h1.ext hW)
 have hL:=h.lt
 have Hin:=hide (fun x hx=>hI.rin (x:=x) hx)
 have hlen:(zbJ (zy s p L) cols rows).length=nr:=by rw [zbJ,List.length_map];exact e1
 have hop:zbH L (zy s p L) rows cols=(candL L rows).find? fun x=>!memB (zbJ (zy s p L) cols rows) (mkS (rowM (zy s p L) cols x)):=rfl
 generalize zbH L (zy s p L) rows cols=op at *
 generalize zbJ (zy s p L) cols rows=zs at *
 have Hop:=hide hop
 have Hlen:=hide hlen
 have He:=hide e1
 have hx0:Ext w ((w.alloc (.cells #[.bool false,.int .i64 0,.slice none 0 0,.slice none 0 0,.int .i64 s.al,.int .i64 s.st,.slice A n c,.int .i64 p.al,.slice B m d,.slice B' m' d',.int .i64 L] 100)).alloc (.cells #[.slice R nr cr,.slice C nc cc] 103)):=((Ext.refl _).alloc _).alloc _
 obtain⟨b1,b2⟩:=zV (Ext.refl ((w.alloc (.cells #[.bool false,.int .i64 0,.slice none 0 0,.slice none 0 0,.int .i64 s.al,.int .i64 s.st,.slice A n c,.int .i64 p.al,.slice B m d,.slice B' m' d',.int .i64 L] 100)).alloc (.cells #[.slice R nr cr,.slice C nc cc] 103)))
 clear h h1 h2 hI e1 e2 hop hlen
 go_enter Tryz.func185,Tryz.ntmps185
 go_upto_region 1 with fail
 generalize (w.alloc (.cells #[.bool false,.int .i64 0,.slice none 0 0,.slice none 0 0,.int .i64 s.al,.int .i64 s.st,.slice A n c,.int .i64 p.al,.slice B m d,.slice B' m' d',.int .i64 L] 100)).alloc (.cells #[.slice R nr cr,.slice C nc cc] 103)=w1 at *
 have CB:=b1.cells
 have CT:=b2.cells
 have hww:=Ext.refl w1
 go_wp2_with (first
  |(go_at_call 142;refine (HA.out _ hx0).mono ?_;rintro e w2 ⟨rfl,hx2⟩)
  |(go_at_call 98;refine (zU L (by unfold Sm;omega) _).mono ?_;rintro e w3 ⟨HL,hc,rfl,hownL,hx3⟩;have hx13:=hx2.trans hx3)
  |(go_at_call 143;refine (HR.out _ (hx0.trans hx13)).mono ?_;rintro e w4 ⟨G,g,rfl,hownG,hx4⟩;have hx14:=hx13.trans hx4))
 have hrdG:=Reads.of_own hownG
 have HG:=hide (fun W (hW:Ext w4 W)=>hrdG.ext hW)
 have hownL4:=zg hownL hx4
 have HLet:=hide (fun W (hW:Ext w4 W)=>zg hownL4 hW)
 have hlm:=hide (fun l (hl:l∈letters L 6)=>(zJ.1 hl).1)
 have hcand:=hide (show candL L rows=rows.flatMap fun r=>(letters L 6).map fun l=>r++letS l from rfl)
 have hls:(letters L 6).length≤6:=zB L 6
 generalize letters L 6=ls at *
 clear hownL hownL4 hrdG hownG hx2 hx3 hx13 hx4 hww
 have hww:=Ext.refl w4
 go_loopw [8] (fun iv wr=>∃ i:Nat,i≤nr∧iv=.int .i64 i∧Hid (∀ x∈(rows.take i).flatMap (fun r=>ls.map fun l=>r++letS l),memB zs (mkS (rowM (zy s p L) cols x))=true)∧Ext w4 wr) (fun iv _=>nr - (intOf iv).toNat)
 case atStart=>exact⟨0,Nat.zero_le _,rfl,hide (fun x hx=>by simp at hx),hww⟩
 case round =>
  clear hww
  obtain⟨i,hi,rfl,hdone,hxr⟩:=hrel
  have CTr:∀ W,Ext wr W→∀ q,W.cell? ⟨w.heap.size+1,q,none⟩=#[Value.slice R nr cr,.slice C nc cc][q]?:=fun W hW=>CT W (hx14.trans (hxr.trans hW))
  have hww:=Ext.refl wr
  by_cases hlt:i<nr
  ·have hlt':(i:Int)<(nr:Int):=by omega
   obtain⟨ad,x,rfl,_,_,hx,cx⟩:=(H1.out wr (hx0.trans (hx14.trans hxr))).str hlt
   have CX:∀ W,Ext wr W→W.cell? (ad.add i)=some (.string x):=fun W hW=>hW.cell_some cx
   have hxs:=(Hin.out x (List.mem_of_getElem? hx.out)).2
   have hxi:=hide hx.out
   clear cx hx
   go_wp2_with fail
   obtain⟨wo,hwo⟩:∃ wo,wo=wr:=⟨_,rfl⟩
   subst hwo
   go_loopw [9] (fun kv wr=>∃ k:Nat,k≤ls.length∧kv=.int .i64 k∧Hid (∀ y∈(ls.take k).map (fun l=>x++letS l),memB zs (mkS (rowM (zy s p L) cols y))=true)∧Ext wo wr) (fun kv _=>ls.length - (intOf kv).toNat)
   case atStart=>exact⟨0,Nat.zero_le _,rfl,hide (fun y hy=>by simp at hy),hww⟩
   case round =>
    clear hww
    obtain⟨k,hk,rfl,hdk,hxr2⟩:=hrel
    by_cases hkl:k<ls.length
    ·have hkl':(k:Int)<(ls.length:Int):=by omega
     obtain⟨l,hl⟩:∃ l,ls[k]?=some l:=⟨_,List.getElem?_eq_getElem hkl⟩
     have hl6:=hlm.out l (List.mem_of_getElem? hl)
     have hown:=HLet.out wr (hxr.trans hxr2)
     obtain⟨gl,rfl,hgl,-⟩:=zap hown (by omega)
     have cl:=zcY hown hkl
     rw [List.getD_eq_getElem?_getD,hl,Option.getD_some] at cl
     have CL:∀ W,Ext wr W→W.cell? ⟨gl,k,none⟩=some (.int .i64 (l:Nat)):=fun W hW=>hW.cell_some cl
     have CX2:∀ W,Ext wr W→W.cell? (ad.add i)=some (.string x):=fun W hW=>CX W (hxr2.trans hW)
     have CT2:∀ W,Ext wr W→∀ q,W.cell? ⟨w.heap.size+1,q,none⟩=#[Value.slice (some ad) nr cr,.slice C nc cc][q]?:=fun W hW=>CTr W (hxr2.trans hW)
     have CB2:∀ W,Ext wr W→∀ q,W.cell? ⟨w.heap.size,q,none⟩=#[Value.bool false,.int .i64 0,.slice none 0 0,.slice none 0 0,.int .i64 s.al,.int .i64 s.st,.slice A n c,.int .i64 p.al,.slice B m d,.slice B' m' d',.int .i64 L][q]?:=fun W hW=>CB W ((hx14.trans (hxr.trans hxr2)).trans hW)
     have HT:=hide (fun W=>zdo (w:=W) hl6)
     have Hl:=hide hl
     obtain⟨z,hz⟩:∃ z,Hid (letS l=z):=⟨_,rfl⟩
     rw [hz.out] at HT
     have hz1:z.size=1:=by rw [← hz.out];exact zdv l
     have hsz:¬ 9223372036854775807<x.size+1:=by omega
     have HWr:=hide (fun W (hW:Ext wr W)=>HW.out W ((hx0.trans (hx14.trans (hxr.trans hxr2))).trans hW) (x++z) (by rw [ByteArray.size_append];omega))
     have HGr:=hide (fun W (hW:Ext wr W)=>HG.out W ((hxr.trans hxr2).trans hW))
     have hww:=Ext.refl wr
     obtain⟨y,hy⟩:∃ y,x++z=y:=⟨_,rfl⟩
     rw [hy] at HWr
     have hyl:Hid (x++letS l=y):=by unfold Hid;rw [hz.out];exact hy
     clear hl cl hown
     go_wp2_with fail
     go_region_held3 (fun W=>Ext wr W) (first|assumption|(refine Ext.drew ?_;assumption)|(refine Ext.trans ?_ (by assumption);assumption)|(refine Ext.trans ?_ (by assumption);refine Ext.drew ?_;assumption)) (first
      |(go_at_call 131;refine (HT.out _).mono ?_;rintro e w7 ⟨rfl,hx7⟩))
     have hx17:Ext wr w7:=by assumption
     clear hy
     cases hm:memB zs (mkS (rowM (zy s p L) cols y))
     all_goals
      have Hm:=hide hm
      clear hm
      go_wp2_with (first
       |(go_at_call 145;refine (HWr.out _ hx17).mono ?_;rintro e w8 ⟨rfl,hx8⟩;have hx18:=hx17.trans hx8)
       |(go_at_call 201;with_reducible refine (zcJ (HGr.out _ hx18)).mono ?_;rw [Hm.out];rintro e w9 ⟨rfl,rfl⟩))
     ·have hsome:=hide (show op=some y by
       rw [Hop.out,hcand.out]
       exact open_find hxi.out Hl.out hyl.out hdone.out hdk.out Hm.out)
      go_ret2
      exact⟨by rw [hsome.out];rfl,hx0.trans (hx14.trans (hxr.trans (hxr2.trans hx18)))⟩
     ·go_roundw
      case rel=>exact⟨k+1,by omega,by go_num,hide (fun y' hy'=>by
       rw [List.take_add_one,Hl.out,List.map_append] at hy'
       rcases List.mem_append.1 hy' with h1|h1
       ·exact hdk.out y' h1
       ·simp at h1
        rw [h1,hyl.out]
        exact Hm.out),hxr2.trans hx18⟩
      case measure=>simp [intOf];omega
    ·have hge:(ls.length:Int)≤(k:Int):=by omega
     go_wp2_with fail
     go_roundw
     case rel=>exact⟨i+1,by omega,by go_num,hide (fun y hy=>by
      rw [List.take_add_one,hxi.out,List.flatMap_append] at hy
      rcases List.mem_append.1 hy with h1|h1
      ·exact hdone.out y h1
      ·refine hdk.out y ?_
       rw [List.take_of_length_le (by omega)]
       simpa using h1),hxr.trans hxr2⟩
     case measure=>simp [intOf];omega
  ·have hge:(nr:Int)≤(i:Int):=by omega
   have hno:=hide (show op=none by
    rw [Hop.out,hcand.out,List.find?_eq_none]
    intro y hy
    have:=hdone.out y (by rw [List.take_of_length_le (by have:=He.out;omega)];exact hy)
    rw [this];decide)
   go_wp2_with fail
   go_ret2
   exact⟨by rw [hno.out];rfl,hx0.trans (hx14.trans hxr)⟩
end
end Go.Proofs.YtndhahednhnnbaaGreatDoor
