/- Blocks are told apart by the types of their cells. It holds of every program. | The reference's l2Rank, l2Keep with all states, and TaskOf, walked. | Plain: assumptions are sound; what certificates and chains without a fault prove. | Plain: what certificates and chains without a fault prove: the conclusions of the laws on them. | The reference's l9Start, l9Move, l9Bad, walked. | The reference's l9Bad, TaskValid, SafeWord and AskTeacher, walked. | spec.l19Num, by its shape alone, walked. | spec.l19Cut and spec.l2Parse, by their shape alone, walked. | spec.FormatSystem, by its shape alone, -/
import Derived.Test.YtndhahednhnnbaaGreatDoorH07
import Derived.Test.YtndhahednhnnbaaGreatDoorH05
import Derived.Test.YtndhahednhnnbaaGreatDoorH04
import Derived.Test.YtndhahednhnnbaaGreatDoorH03
import Derived.Test.YtndhahednhnnbaaGreatDoorH01
import Derived.Test.YtndhahednhnnbaaGreatDoorH02
import Derived.Laws.Strings
import Derived.Deep.AppendLies
namespace Go.Proofs.YtndhahednhnnbaaGreatDoor
open Go Go.RowKit
theorem zgK {w:World} {base:Nat} {e:TypeId} {size n b:Nat} {v:Value} {xs:List Value}(h:w.ownsRow base e size v n xs)(hb:v.ownBlock=some b):∃ cur,w.heap[b]?=some (.cells cur e (0,0)):=by
 rcases h.2 with ⟨rfl,_⟩|⟨g,cap,cur,rfl,_,hh,_⟩
 ·simp [Value.ownBlock] at hb
 ·have:g=b:=by simpa [Value.ownBlock] using hb
  subst this
  exact⟨cur,hh⟩
theorem zK.frmT {S:Nat→Prop} {w w':World} {base:Nat} {A:Option Addr} {n c:Nat} {A':Option Addr} {n' c':Nat} {a:Aut}(h:zK w base A n c A' n' c' a)(hb:Frm S w w')
  (hS:∀ k,S k→∀ cs t,w.heap[k]?=some (.cells cs t (0,0))→t≠3∧t≠71∧t≠4):zK w' base A n c A' n' c' a:=by
 obtain⟨⟨rows,h1,h2⟩,h3,h4,h5⟩:=h
 refine⟨⟨rows,ze h1 hb (fun b hv hs=>?_),h2.frm hb (fun i r b hr hb hs=>?_)⟩,h3,ze h4 hb (fun b hv hs=>?_),h5⟩
 ·obtain⟨cs,hc⟩:=zgK h1 hv
  exact (hS b hs cs _ hc).2.1 rfl
 ·obtain⟨l',_,ho⟩:=h2.row hr
  obtain⟨cs,hc⟩:=zgK ho hb
  exact (hS b hs cs _ hc).1 rfl
 ·obtain⟨cs,hc⟩:=zgK h4 hv
  exact (hS b hs cs _ hc).2.2 rfl
theorem zK.farT {w w':World} {base G:Nat} {A:Option Addr} {n c:Nat} {A':Option Addr} {n' c':Nat} {a:Aut} {cs:Array Value} {t:TypeId}(h:zK w base A n c A' n' c' a)(hB:Blk w G t cs)(hf:Frm (fun k=>k=G) w w')(ht:t≠3∧t≠71∧t≠4):zK w' base A n c A' n' c' a:=
 h.frmT hf (fun k hk cs' t' hh=>by
  subst hk
  unfold Blk at hB
  rw [hB] at hh
  injection hh with hh
  injection hh with _ h2
  subst h2
  exact ht)
theorem zK.farR {w w':World} {base b1 size k:Nat} {e:TypeId} {v:Value} {xs:List Value} {A:Option Addr} {n c:Nat} {A':Option Addr} {n' c':Nat} {a:Aut}(h:zK w base A n c A' n' c' a)(ho:w.ownsRow b1 e size v k xs)(hf:Frm (fun k=>v.ownBlock=some k) w w')(ht:e≠3∧e≠71∧e≠4):zK w' base A n c A' n' c' a:=
 h.frmT hf (fun k hk cs' t' hh=>by
  obtain⟨cs,hc⟩:=zgK ho hk
  rw [hc] at hh
  injection hh with hh
  injection hh with _ h2
  subst h2
  exact ht)
set_option maxHeartbeats 2000000
theorem spec_l2Rank {p k:Nat} {w:World}(hp:p≤16)(hk:k≤p) :
  Calls Tryz.prog 223 #[.int .i64 (2 ^ p - 1:Nat),.int .i64 k] w fun e w'=>e=.returned (.int .i64 (k:Nat))∧w=w':=by
 have hF:2 ^ p - 1<65536:=by have:=Nat.pow_le_pow_right (show 1≤2 by omega) hp;have:(2:Nat) ^ 16=65536:=rfl;omega
 have HB:=hide (fun i (hi:i<p)=>show (2 ^ p - 1).testBit i=true by rw [Nat.testBit_two_pow_sub_one];simpa using hi)
 generalize 2 ^ p - 1=F at *
 go_enter Tryz.func223,Tryz.ntmps223
 go_wp2_with fail
 go_loop [5,6] (fun v iv=>∃ i:Nat,iv=.int .i64 i∧i≤k∧v=.int .i64 i) (fun _ iv=>k - (intOf iv).toNat)
 case atStart=>exact⟨0,rfl,Nat.zero_le _,rfl⟩
 case round =>
  obtain⟨i,rfl,hi,rfl⟩:=hrel
  by_cases hlt:i<k
  ·have hlt':(i:Int)<(k:Int):=by omega
   have Hb:=hide (HB.out i (by omega))
   go_wp2_with (go_at_call 147;refine (zad F i (by unfold Sm;omega) _ (by omega)).mono ?_;rw [Hb.out];rintro e w' ⟨rfl,rfl⟩)
   go_round
   case rel=>exact⟨i+1,by go_num,by omega,by go_num⟩
   case measure=>simp [intOf];omega
  ·obtain rfl:i=k:=by omega
   go_wp2_with fail
   go_ret
   exact⟨rfl,rfl⟩
section
variable {w W:World} {lo hi n c m d m' d':Nat} {A B B':Option Addr} {s:Sys} {p:Aut}
theorem yH08a2 {P:Prop}(h:P:=by
 (refine za rfl rfl rfl rfl (fun K hK=>?_))
 go_simp
 refine hK.out _ _ ?_
 refine zd ?_
 go_wp2_with fail
 go_meet
 obtain⟨w1,h1,h2⟩:=Hfin.out
 exact⟨w1,rfl,h1,h2⟩
 ):P:=h
set_option maxRecDepth 100000 in
theorem spec_l2Keep {P:Nat}(h:zQ w lo hi A n s)(hv:zj s=true)(hP:s.st=(P:Int))(hn:n≤1000000)(hhi:hi≤w.heap.size) :
  Calls Tryz.prog 221 #[.agg #[.int .i64 s.al,.int .i64 s.st,.slice A n c],.int .i64 (2 ^ P - 1:Nat)] w (RetSys w s):=by
 have hsm:=zci hv
 obtain⟨hs1,hs2,hf,-⟩:=hsm
 have hP16:P≤16:=by omega
 have hPn:s.st.toNat=P:=by omega
 rw [hPn] at hf
 have Hf:=hide hf
 have HS:=hide (fun W (hW:Ext w W)=>h.ext hW)
 have hl:=hide h.1
 have HPe:=hide hP
 have hF:2 ^ P - 1<65536:=by have:=Nat.pow_le_pow_right (show 1≤2 by omega) hP16;have:(2:Nat) ^ 16=65536:=rfl;omega
 have HRk:=hide (fun k W (hk:k≤P)=>spec_l2Rank (w:=W) hP16 hk)
 have HB:=hide (fun i (hi:i<P)=>show (2 ^ P - 1).testBit i=true by rw [Nat.testBit_two_pow_sub_one];simpa using hi)
 rw [hP]
 generalize 2 ^ P - 1=F at *
 have hx0:Ext w ((w.alloc (.cells #[.int .i64 s.al,.int .i64 (P:Nat),.slice A n c] 39)).alloc (.cells #[.int .i64 0,.int .i64 0,.slice none 0 0] 39)):=((Ext.refl _).alloc _).alloc _
 obtain⟨b1,b2⟩:=zR (Ext.refl ((w.alloc (.cells #[.int .i64 s.al,.int .i64 (P:Nat),.slice A n c] 39)).alloc (.cells #[.int .i64 0,.int .i64 0,.slice none 0 0] 39)))
 clear h hv hP hs1 hs2 hf hPn
 go_enter Tryz.func221,Tryz.ntmps221
 go_upto_region 1 with fail
 generalize (w.alloc (.cells #[.int .i64 s.al,.int .i64 (P:Nat),.slice A n c] 39)).alloc (.cells #[.int .i64 0,.int .i64 0,.slice none 0 0] 39)=w0 at *
 have CB:=b1.cells
 have hww:=Ext.refl w0
 have hb2:=b2.lt
 have hRP:=hide (fun W=>HRk.out P W (Nat.le_refl _))
 have hww1:=hww.drew
 have hxb:=(Ext.refl w0.drew).alloc (.cells #[.int .i64 0,.int .i64 0,.slice none 0 0] 39)
 have bG:=Blk.new w0.drew 39 #[.int .i64 0,.int .i64 0,.slice none 0 0]
 go_cut [5] (fun v wx=>∃ w1,v=.pointer (some ⟨w0.heap.size,0,none⟩)∧Ext w0 w1∧Gr2 w1 wx w0.heap.size s.al (P:Nat) (.slice none 0 0) [])
 case first =>
  have hfin:∃ w1,Ext w0 w1∧Gr2 w1 (w0.alloc (.cells #[.int .i64 s.al,.int .i64 (P:Nat),.slice none 0 0] 39)).drew w0.heap.size s.al (P:Nat) (.slice none 0 0) []:=
   ⟨(w0.alloc (.cells #[.int .i64 s.al,.int .i64 (P:Nat),.slice none 0 0] 39)).drew,((Ext.refl _).alloc _).drew,Blk.new w0 _ _,World.ownsRow_nil _ _ _ _,Frm.refl _ _,by simp⟩
  have Hfin:=hide hfin
  have cG:=bG.cell
  have fG:=bG.frozen
  rw [show w0.drew.heap.size=w0.heap.size from rfl] at cG fG
  clear hfin
  refine uR (fun X=>Ext w0 X) [8] (OrdU.app [0,1,2,3,4] (OrdU.two 5 (OrdU.of [6,7,8]) 7 (OrdU.of [5,6,8]))) ?_
  refine uQ ?_
  refine zl rfl rfl rfl rfl (fun K hK=>?_) (fun K hK=>?_)
  ·go_simp
   refine (hRP.out _).mono ?_
   rintro e w' ⟨rfl,rfl⟩
   refine hK.out _ _ hww1 ?_
   refine pT ?_
   refine uQ ?_
   (refine zb rfl rfl rfl (fun K hK=>?_);go_simp)
   refine hK.out _ _ (hww1.alloc _) ?_
   refine pT ?_
   exact yH08a2
  ·go_simp
   refine hK.out _ _ (hww1.alloc _) ?_
   refine pT ?_
   (refine zb rfl rfl rfl (fun K hK=>?_);go_simp)
   refine (hRP.out _).mono ?_
   rintro e w' ⟨rfl,rfl⟩
   refine hK.out _ _ (hww1.alloc _) ?_
   refine pT ?_
   refine uQ ?_
   exact yH08a2
 case rest =>
  obtain⟨w1,rfl,hx01,hgr⟩:=hcut
  have HSw:=hide (fun W (hW:Ext w1 W)=>HS.out W (hx0.trans (hx01.trans hW)))
  have CB1:∀ W,Frm (fun k=>k=w0.heap.size) w1 W→∀ q,W.cell? ⟨w.heap.size,q,none⟩=#[Value.int .i64 s.al,.int .i64 (P:Nat),.slice A n c][q]?:=fun W hW=>((b1.ext hx01).frm hW (by omega)).cell
  have hs01:=hx01.size
  clear hxb bG hww1 CB hww
  go_wp2_with fail
  go_loopw [6] (fun iv wr=>∃ (k:Nat) (v:Value),iv=.int .i64 k∧k≤n∧Gr2 w1 wr w0.heap.size s.al (P:Nat) v (s.edges.take k)) (fun iv _=>n - (intOf iv).toNat)
  case atStart=>exact⟨0,_,rfl,Nat.zero_le _,hgr⟩
  case round =>
   clear hgr
   obtain⟨k,v,rfl,hk,hgr⟩:=hrel
   have k1:=CB1 wr hgr.fr
   by_cases hlt:k<n
   ·have hlt':(k:Int)<(n:Int):=by omega
    have hSr:=(HSw.out w1 (Ext.refl _)).frm hgr.fr (fun k h1 h2 e=>by have:=hx0.size;omega)
    obtain⟨g,o,x,rfl,hglo,hghi,hx,c0,c1,c2⟩:=hSr.2.edge hlt
    obtain⟨⟨f0,f1⟩,⟨l0,l1⟩,t0,t1⟩:=Hf.out x (List.mem_of_getElem? hx.out)
    obtain⟨fr,hfr⟩:∃ fr:Nat,Hid (x.fr=fr):=⟨x.fr.toNat,by unfold Hid;omega⟩
    obtain⟨to_,hto⟩:∃ to_:Nat,Hid (x.ta=to_):=⟨x.ta.toNat,by unfold Hid;omega⟩
    have hfrP:fr<P:=by have:=hfr.out;omega
    have htoP:to_<P:=by have:=hto.out;omega
    rw [hfr.out] at c0
    rw [hto.out] at c2
    have hR1:=hide (fun W=>HRk.out fr W (by omega))
    have hR2:=hide (fun W=>HRk.out to_ W (by omega))
    have hB1:=hide (HB.out fr hfrP)
    have hB2:=hide (HB.out to_ htoP)
    have hxe:=(Ext.refl wr).alloc (.cells #[.int .i64 fr,.int .i64 x.le,.int .i64 to_] 126)
    have be:=Blk.new wr 126 #[.int .i64 fr,.int .i64 x.le,.int .i64 to_]
    have hgr2:=hgr.ext_ hxe
    have hk1:=hide hgr.fr.size
    have hst:=hide (show zp (s.edges.take (k+1))=zp (s.edges.take k)++[.int .i64 fr,.int .i64 x.le,.int .i64 to_] by
     rw [List.take_add_one,hx.out,Option.toList_some,zbJ,← hfr.out,← hto.out];rfl)
    have hlt2:=hide (show (s.edges.take k).length=k by rw [List.length_take];have:=hl.out;omega)
    clear f0 f1 t0 t1 hgr
    go_upto_region 6 with fail
    generalize hge:wr.heap.size=ge at *
    have HGe:=hide hge
    clear hge
    generalize wr.alloc (.cells #[.int .i64 fr,.int .i64 x.le,.int .i64 to_] 126)=w2 at *
    have ce:=be.cell
    go_wp2_with (first
     |(go_at_call 147;with_reducible refine (zad F fr (by unfold Sm;omega) _ (by omega)).mono ?_;rw [hB1.out];rintro e w' ⟨rfl,rfl⟩)
     |(go_at_call 147;with_reducible refine (zad F to_ (by unfold Sm;omega) _ (by omega)).mono ?_;rw [hB2.out];rintro e w' ⟨rfl,rfl⟩))
    have CE:=be.cells
    have CG:∀ W,Ext w2 W→∀ q,W.cell? ⟨w0.heap.size,q,none⟩=#[Value.int .i64 s.al,.int .i64 (P:Nat),v][q]?:=fun W hW=>(hgr2.blk.ext hW).cell
    have hww:=Ext.refl w2
    clear ce
    refine uR (fun X=>Ext w2 X) [14,16] (OrdU.of [0,1,2,3,4,6,7,8,9,10,5,11,12,13,14,15,16]) ?_
    refine uQ ?_
    have hxd:=hww.drew
    (refine zb rfl rfl rfl (fun K hK=>?_);go_simp)
    refine (hR1.out _).mono ?_
    rintro e w' ⟨rfl,rfl⟩
    refine hK.out _ _ hxd ?_
    refine pT ?_
    refine uQ ?_
    (refine zb rfl rfl rfl (fun K hK=>?_);go_simp)
    refine (hR2.out _).mono ?_
    rintro e w' ⟨rfl,rfl⟩
    refine hK.out _ _ hxd ?_
    refine pT ?_
    refine uQ ?_
    (refine zb rfl rfl rfl (fun K hK=>?_);go_simp)
    refine hK.out _ _ (hxd.alloc _) ?_
    refine pT ?_
    (refine za rfl rfl rfl rfl (fun K hK=>?_))
    have hgr3:=hgr2.ext_ hxd
    have hown3:=hgr3.own
    rw [hlt2.out] at hown3
    refine zaG w1 w2.drew _ _ _ rfl 126 _ 3 24 Tryz.underlying37 zaQ rfl (by decide) v k (zp (s.edges.take k)) _ _ rfl rfl hgr3.fr.size hown3 rfl (by simp [Value.oneCell']) (by unfold maxLen;omega) (by omega) ?_
    intro g8 cap8 w8 hown8 hg8 hat8 hlt8
    refine hK.out _ _ ?_
    refine pT ?_
    refine uQ ?_
    obtain⟨p1,p2,p3⟩:=hgr3.push (e:=⟨fr,x.le,to_⟩) (W':=w8) (by rw [hlt2.out];exact hown8) hg8
    have p1':=p1.out
    have heq:=hide (show s.edges.take k++[⟨fr,x.le,to_⟩]=s.edges.take (k+1) by
     rw [List.take_add_one,hx.out,Option.toList_some,← hfr.out,← hto.out])
    rw [heq.out,hlt2.out] at p3
    (refine za rfl rfl rfl rfl (fun K hK=>?_))
    go_simp
    refine hK.out _ _ ?_
    refine zd ?_
    clear hown8 hg8 hat8 hown3 p1 hgr3
    generalize w8.setCell ⟨w0.heap.size,2,none⟩ (.slice (some ⟨g8,0,none⟩) (k+1) cap8)=w10 at *
    go_wp2_with fail
    go_roundw
    case rel=>exact⟨k+1,_,by go_num,by omega,p3⟩
    case measure=>simp [intOf];omega
   ·obtain rfl:k=n:=by omega
    rw [List.take_of_length_le (by have:=hl.out;omega)] at hgr
    have hown:=hgr.own
    rw [← hl.out] at hown
    obtain⟨A1,c1,rfl⟩:=zh hown
    have bz:=(b2.ext hx01).frm hgr.fr (by omega)
    have kz:=bz.cell
    have fz:=bz.frozen
    have kG:=hgr.blk.cell
    have hf:=zaa wr (w.heap.size+1) (.int .i64 s.al) (.int .i64 (P:Nat)) (.slice A1 k c1)
    have cf:=(zah bz rfl (.int .i64 s.al) (.int .i64 (P:Nat)) (.slice A1 k c1)).cell
    have hxw:Ext w wr:=(hx0.trans hx01).frm hgr.fr (fun k hk e=>by have:=hx0.size;omega)
    have hret:=hide (show RetSys w s (.returned (.agg #[.int .i64 s.al,.int .i64 (P:Nat),.slice A1 k c1])) (((wr.setCell ⟨w.heap.size+1,0,none⟩ (.int .i64 s.al)).setCell ⟨w.heap.size+1,1,none⟩ (.int .i64 (P:Nat))).setCell ⟨w.heap.size+1,2,none⟩ (.slice A1 k c1)) from
     ⟨A1,k,c1,by rw [HPe.out],⟨hl.out,zn (ze hown hf (fun b hv e=>zo hown bz (by decide) hv e)) (hx0.trans hx01).size⟩,hxw.frm hf (fun k hk e=>by omega)⟩)
    clear hf hown
    go_wp2_with fail
    exact bodyPost_ret (v:=.agg #[.int .i64 s.al,.int .i64 (P:Nat),.slice A1 k c1]) (by simp [results,Tryz.results221,go_sem,cf]) rfl hret.out
end
set_option maxHeartbeats 2000000
theorem zcn {p:Aut} {f:Nat→Bool} {ls:List Nat}:∀ {q:Nat},(∀ l∈ls,p.al.toNat.testBit l=true→f l=true)→runA p q (ls.filter f)=runA p q ls:=by
 induction ls with
 |nil=>intro q _;rfl
 |cons l r ih =>
  intro q h
  have ih:=fun {q}=>ih (q:=q) (fun k hk=>h k (List.mem_cons_of_mem _ hk))
  rw [List.filter_cons]
  show _=runA p (aGo p q l) r
  cases hf:f l
  ·have e:aGo p q l=q:=by
    unfold aGo
    rw [if_neg]
    intro hb
    have:=h l List.mem_cons_self hb
    rw [hf] at this;cases this
   rw [e];simpa using ih
  ·simp only [if_true]
   exact ih
theorem goes_filter {s:Sys} {f:Nat→Bool}:∀ (n:Nat) (v:List Nat),v.length=n→(∀ l∈v,s.al.toNat.testBit l=true→f l=true)→∀ q,Goes (cho s) [0] (v.filter f) q↔Goes (cho s) [0] v q:=by
 intro n
 induction n with
 |zero =>
  intro v hl _ q
  obtain rfl:=List.eq_nil_of_length_eq_zero hl
  exact Iff.rfl
 |succ n ih =>
  intro v hl h q
  rcases zac v with rfl|⟨u,l,rfl⟩
  ·simp at hl
  have ih:=ih u (by simpa using hl) (fun k hk=>h k (by simp [hk]))
  rw [List.filter_append]
  cases hf:f l
  ·have hb:s.al.toNat.testBit l=false:=by
    rw [Bool.eq_false_iff]
    intro hb
    have:=h l (by simp) hb
    rw [hf] at this;cases this
   rw [show List.filter f [l]=[] by simp [hf],List.append_nil,ih]
   constructor
   ·intro h1
    exact .snoc h1 (by unfold cho;rw [hb];simp)
   ·intro h1
    obtain⟨m,h2,h3⟩:=h1.inv
    unfold cho at h3
    rw [hb] at h3
    simp at h3
    rw [h3]
    exact h2
  ·rw [show List.filter f [l]=[l] by simp [hf]]
   constructor
   ·intro h1
    obtain⟨m,h2,h3⟩:=h1.inv
    exact .snoc ((ih m).1 h2) h3
   ·intro h1
    obtain⟨m,h2,h3⟩:=h1.inv
    exact .snoc ((ih m).2 h2) h3
theorem zfH {s:Sys} {f:Nat→Bool} {v:List Nat}(h:∀ l∈v,s.al.toNat.testBit l=true→f l=true):Runs s (v.filter f)↔Runs s v:=exists_congr fun q=>goes_filter _ v rfl h q
theorem zfT (ss:List Sys) (l:Nat):(zJ ss).testBit l=true↔∃ s∈ss,s.al.toNat.testBit l=true:=by
 have key:∀ (ss:List Sys) (u:Nat),(ss.foldl (fun a s=>a|||s.al.toNat) u).testBit l=true↔u.testBit l=true∨∃ s∈ss,s.al.toNat.testBit l=true:=by
  intro ss
  induction ss with
  |nil=>intro u;simp
  |cons s r ih =>
   intro u
   rw [List.foldl_cons,ih,Nat.testBit_or,Bool.or_eq_true]
   simp [or_assoc]
 have:=key ss 0
 simpa [zJ] using this
def Over (A:Nat) (v:List Nat):Prop:=∀ l∈v,l<6∧A.testBit l=true
theorem zfk {A:Nat} {v:List Nat}:(∀ l∈v,l∈letters A 6)↔Over A v:=by unfold Over;simp only [zD]
theorem keepsU_iff {s:Sys} {a p:Aut}:zax s a p=true↔(zj s=true∧zg a=true∧zg p=true)∧∀ v,Over (s.al.toNat|||a.al.toNat) v→Runs s v→accB a (runA a 0 v)=true→accB p (runA p 0 v)=true:=by
 unfold zax zca
 simp only [Bool.and_eq_true,Bool.not_eq_true']
 constructor
 ·rintro ⟨⟨h1,h2,h3⟩,h4⟩
  refine⟨⟨h1,h2,h3⟩,fun v hv hr ha=>?_⟩
  cases hb:accB p (runA p 0 v)
  ·have:=(zhe (ss:=[s]) (by simpa using h1) h2 h3).2 ⟨v,zfk.2 (by simpa [zJ] using hv),by simpa using hr,ha,hb⟩
   rw [h4] at this;cases this
  ·rfl
 ·rintro ⟨⟨h1,h2,h3⟩,h4⟩
  refine⟨⟨h1,h2,h3⟩,?_⟩
  rw [Bool.eq_false_iff]
  intro hv
  obtain⟨v,hv,hr,ha,hb⟩:=(zhe (ss:=[s]) (by simpa using h1) h2 h3).1 hv
  have:=h4 v (by have:=zfk.1 hv;simpa [zJ] using this) (hr s (by simp)) ha
  rw [hb] at this;cases this
theorem runA_free (q:Nat) (v:List Nat):runA free q v=q:=by
 induction v generalizing q with
 |nil=>rfl
 |cons l r ih =>
  show runA free (aGo free q l) r=q
  rw [show aGo free q l=q by simp [aGo,free],ih]
theorem zdo {ss:List Sys} {p:Aut}:zar ss p=true↔(zv ss=true∧zg p=true)∧∀ v,Over (zJ ss) v→(∀ s∈ss,Runs s v)→accB p (runA p 0 v)=true:=by
 unfold zar zcw
 simp only [Bool.and_eq_true,Bool.not_eq_true']
 have hf:∀ v,accB free (runA free 0 v)=true:=fun v=>by rw [runA_free];rfl
 have hU:zJ ss|||free.al.toNat=zJ ss:=by simp [free]
 constructor
 ·rintro ⟨⟨h1,h2⟩,h4⟩
  refine⟨⟨h1,h2⟩,fun v hv hr=>?_⟩
  cases hb:accB p (runA p 0 v)
  ·have:=(zhe (a:=free) (zan h1).2 zdm h2).2 ⟨v,zfk.2 (by rw [hU];exact hv),hr,hf v,hb⟩
   rw [h4] at this;cases this
  ·rfl
 ·rintro ⟨⟨h1,h2⟩,h4⟩
  refine⟨⟨h1,h2⟩,?_⟩
  rw [Bool.eq_false_iff]
  intro hv
  obtain⟨v,hv,hr,ha,hb⟩:=(zhe (a:=free) (zan h1).2 zdm h2).1 hv
  have:=h4 v (by rw [hU] at hv;exact zfk.1 hv) hr
  rw [hb] at this;cases this
theorem ag_sound {s:Sys} {ts:List Sys} {a p:Aut}(hu:zax s a p=true)(hk:zar ts a=true)(hl:a.al.toNat=(s.al.toNat|||p.al.toNat)&&&zJ ts)(hp:zv (s :: ts)=true):zar (s :: ts) p=true:=by
 obtain⟨⟨h1,h2,h3⟩,h4⟩:=keepsU_iff.1 hu
 obtain⟨⟨h5,h6⟩,h7⟩:=zdo.1 hk
 refine zdo.2 ⟨⟨hp,h3⟩,fun v hv hr=>?_⟩
 have hbit:∀ l,a.al.toNat.testBit l=true↔(s.al.toNat.testBit l=true∨p.al.toNat.testBit l=true)∧(zJ ts).testBit l=true:=by
  intro l
  rw [hl,Nat.testBit_and,Nat.testBit_or,Bool.and_eq_true,Bool.or_eq_true]
 have hv1:Over (s.al.toNat|||a.al.toNat) (v.filter fun l=>(s.al.toNat|||a.al.toNat).testBit l):=fun l hl=>by
  obtain⟨h8,h9⟩:=List.mem_filter.1 hl
  exact⟨(hv l h8).1,h9⟩
 have hv2:Over (zJ ts) (v.filter fun l=>(zJ ts).testBit l):=fun l hl=>by
  obtain⟨h8,h9⟩:=List.mem_filter.1 hl
  exact⟨(hv l h8).1,h9⟩
 have hb1:∀ l,s.al.toNat.testBit l=true→(s.al.toNat|||a.al.toNat).testBit l=true:=fun l h=>by rw [Nat.testBit_or,h];rfl
 have hb2:∀ l,a.al.toNat.testBit l=true→(s.al.toNat|||a.al.toNat).testBit l=true:=fun l h=>by rw [Nat.testBit_or,h,Bool.or_true]
 have r1:=(zfH (fun l _ h=>hb1 l h)).2 (hr s List.mem_cons_self)
 have r2:∀ t∈ts,Runs t (v.filter fun l=>(zJ ts).testBit l):=fun t ht=>(zfH (fun l _ h=>(zfT ts l).2 ⟨t,ht,h⟩)).2 (hr t (List.mem_cons_of_mem _ ht))
 have e1:=h7 _ hv2 r2
 rw [zcn (fun l _ h=>((hbit l).1 h).2)] at e1
 have e2:=h4 _ hv1 r1
 rw [zcn (fun l _ h=>hb2 l h),zcn (fun l hl h=>?_)] at e2
 ·exact e2 e1
 ·cases hs:s.al.toNat.testBit l
  ·refine hb2 l ((hbit l).2 ⟨.inr h,?_⟩)
   obtain⟨u,hu1,hu2⟩:=(zfT _ l).1 (hv l hl).2
   rcases List.mem_cons.1 hu1 with rfl|hu1
   ·rw [hs] at hu2;cases hu2
   ·exact (zfT ts l).2 ⟨u,hu1,hu2⟩
  ·exact hb1 l hs
set_option maxHeartbeats 2000000
theorem zfm {ss:List Sys}(h1:1≤ss.length)(h3:ss.length≤3)(hv:∀ s∈ss,zj s=true):zv ss=true:=by
 unfold zv
 simp only [Bool.and_eq_true,decide_eq_true_eq,List.all_eq_true]
 exact⟨h1,h3,hv⟩
theorem zcD {ss:List Sys} {p:Aut}:three ss p=true↔ss.length=3∧zv ss=true∧zg p=true:=by
 unfold three
 simp only [Bool.and_eq_true,decide_eq_true_eq]
theorem zdZ {x y z:Sys} {p:Aut}(h:three [x,y,z] p=true) :
  zV [x,y,z] p=(((x.al.toNat|||p.al.toNat)&&&(y.al.toNat|||z.al.toNat):Nat):Int) ∧
  zaK [x,y,z] p=(((y.al.toNat|||(zV [x,y,z] p).toNat)&&&z.al.toNat:Nat):Int):=by
 obtain⟨_,h2,h3⟩:=zcD.1 h
 obtain⟨_,hv⟩:=zan h2
 have vx:=zI (hv x (by simp))
 have vy:=zI (hv y (by simp))
 have vz:=zI (hv z (by simp))
 have vp:=(zi h3).1
 have e1:zV [x,y,z] p=(((x.al.toNat|||p.al.toNat)&&&(y.al.toNat|||z.al.toNat):Nat):Int):=by
  unfold zV
  rw [h,if_pos rfl]
  obtain⟨a,ha⟩:∃ a:Nat,x.al=a:=⟨x.al.toNat,by omega⟩
  obtain⟨b,hb⟩:∃ a:Nat,y.al=a:=⟨y.al.toNat,by omega⟩
  obtain⟨c,hc⟩:∃ a:Nat,z.al=a:=⟨z.al.toNat,by omega⟩
  obtain⟨d,hd⟩:∃ a:Nat,p.al=a:=⟨p.al.toNat,by omega⟩
  dsimp only
  rw [ha,hb,hc,hd]
  have e1:=Nat.or_lt_two_pow (n:=6) (x:=a) (y:=d) (by omega) (by omega)
  have e2:=Nat.or_lt_two_pow (n:=6) (x:=b) (y:=c) (by omega) (by omega)
  rw [zaO (by unfold Sm;omega) (by unfold Sm;omega),zaO (by unfold Sm;omega) (by unfold Sm;omega),zbt (by unfold Sm;omega) (by unfold Sm;omega)]
  simp only [Int.toNat_natCast]
 refine⟨e1,?_⟩
 obtain⟨c1,hc1,hc6⟩:=zbR h
 unfold zaK
 rw [h,if_pos rfl,hc1]
 obtain⟨b,hb⟩:∃ a:Nat,y.al=a:=⟨y.al.toNat,by omega⟩
 obtain⟨c,hc⟩:∃ a:Nat,z.al=a:=⟨z.al.toNat,by omega⟩
 dsimp only
 rw [hb,hc]
 have e2:=Nat.or_lt_two_pow (n:=6) (x:=b) (y:=c1) (by omega) (by omega)
 rw [zaO (by unfold Sm;omega) (by unfold Sm;omega),zbt (by unfold Sm;omega) (by unfold Sm;omega)]
 simp only [Int.toNat_natCast]
theorem zez {ss:List Sys} {p f g:Aut}:zaA ss p f g=0↔∃ x y z,ss=[x,y,z]∧three ss p=true∧zg f=true∧zg g=true∧f.al=zV ss p∧g.al=zaK ss p∧zax x f p=true∧zax y g f=true∧zar [z] g=true:=by
 constructor
 ·intro h
  unfold zaA at h
  by_cases h1:(three ss p&&(zg f&&zg g))=false
  ·rw [if_pos h1] at h;omega
  rw [if_neg h1] at h
  by_cases h2:(decide (f.al=zV ss p)&&decide (g.al=zaK ss p))=false
  ·rw [if_pos h2] at h;omega
  rw [if_neg h2] at h
  simp only [Bool.not_eq_false,Bool.and_eq_true,decide_eq_true_eq] at h1 h2
  obtain⟨x,y,z,rfl⟩:=zbq h1.1
  dsimp only at h
  by_cases h3:(zax x f p&&zax y g f)=false
  ·rw [if_pos h3] at h;omega
  rw [if_neg h3] at h
  by_cases h4:zar [z] g=false
  ·rw [if_pos h4] at h;omega
  simp only [Bool.not_eq_false,Bool.and_eq_true] at h3 h4
  exact⟨x,y,z,rfl,h1.1,h1.2.1,h1.2.2,h2.1,h2.2,h3.1,h3.2,h4⟩
 ·rintro ⟨x,y,z,rfl,h1,h2,h3,h4,h5,h6,h7,h8⟩
  unfold zaA
  rw [if_neg (by rw [h1,h2,h3];decide),if_neg (by rw [decide_eq_true h4,decide_eq_true h5];decide)]
  dsimp only
  rw [if_neg (by rw [h6,h7];decide),if_neg (by rw [h8];decide)]
theorem zcY {s t:Sys} {p:Aut}(hs:zj s=true)(hp:zg p=true)(ht:zj t=true):iface s p t=(((s.al.toNat|||p.al.toNat)&&&t.al.toNat:Nat):Int):=by
 unfold iface
 rw [hs,hp,ht];rfl
theorem zfw {s t:Sys} {p a:Aut}:zeb s t p a=0↔0≤iface s p t∧zg a=true∧a.al=iface s p t∧zax s a p=true∧zar [t] a=true:=by
 unfold zeb
 constructor
 ·intro h
  by_cases h1:iface s p t<0∨zg a=false
  ·rw [if_pos h1] at h;omega
  rw [if_neg h1] at h
  by_cases h2:a.al≠iface s p t
  ·rw [if_pos h2] at h;omega
  rw [if_neg h2] at h
  by_cases h3:zax s a p=false
  ·rw [if_pos h3] at h;omega
  rw [if_neg h3] at h
  by_cases h4:zar [t] a=false
  ·rw [if_pos h4] at h;omega
  simp only [Bool.not_eq_false] at h3 h4
  refine⟨?_,?_,Classical.not_not.1 h2,h3,h4⟩
  ·apply Classical.byContradiction;intro hn;exact h1 (.inl (by omega))
  ·cases hb:zg a
   ·exact absurd (.inr hb) h1
   ·rfl
 ·rintro ⟨h1,h2,h3,h4,h5⟩
  rw [if_neg (by rintro (h|h);omega;rw [h2] at h;cases h),if_neg (by intro h;exact h h3),if_neg (by rw [h4];decide),if_neg (by rw [h5];decide)]
theorem zef {s t:Sys} {p:Aut}(h:0≤iface s p t):zj s=true∧zg p=true∧zj t=true:=by
 have h1:¬ iface s p t<0:=by omega
 rw [iface_neg] at h1
 simpa using h1
theorem faultA_sound {s t:Sys} {p a:Aut}(h:zeb s t p a=0):zar [s,t] p=true:=by
 obtain⟨h1,h2,h3,h4,h5⟩:=zfw.1 h
 obtain⟨v1,v2,v3⟩:=zef h1
 refine ag_sound h4 h5 ?_ (zfm (by simp) (by simp) (by simp;exact⟨v1,v3⟩))
 rw [h3,zcY v1 v2 v3]
 simp [zJ]
theorem chain_sound {ss:List Sys} {p f g:Aut}(h:zaA ss p f g=0):zar ss p=true∧∃ x y z,ss=[x,y,z]∧zar [y,z] f=true∧zeb y z f g=0:=by
 obtain⟨x,y,z,rfl,h1,h2,h3,h4,h5,h6,h7,h8⟩:=zez.1 h
 obtain⟨_,hpa,hpv⟩:=zcD.1 h1
 obtain⟨_,hv⟩:=zan hpa
 have vy:=hv y (by simp)
 have vz:=hv z (by simp)
 obtain⟨e1,e2⟩:=zdZ h1
 rw [← h4] at e2
 have hi:iface y f z=g.al:=by rw [zcY vy h2 vz,h5,e2]
 have hA:zeb y z f g=0:=zfw.2 ⟨by rw [zcY vy h2 vz];omega,h3,hi.symm,h7,h8⟩
 have hk:=faultA_sound hA
 refine⟨ag_sound h6 hk ?_ hpa,x,y,z,rfl,hk,hA⟩
 rw [h4,e1]
 simp [zJ]
theorem runs_less {t u:Sys}(hal:u.al=t.al)(he:∀ e∈u.edges,e∈t.edges) {v:List Nat}(h:Runs u v):Runs t v:=by
 obtain⟨q,hq⟩:=h
 have key:∀ n (v:List Nat),v.length=n→∀ q,Goes (cho u) [0] v q→Goes (cho t) [0] v q:=by
  intro n
  induction n with
  |zero =>
   intro v hl q h
   obtain rfl:=List.eq_nil_of_length_eq_zero hl
   exact .nil h.inv_nil
  |succ n ih =>
   intro v hl q h
   rcases zac v with rfl|⟨w,l,rfl⟩
   ·simp at hl
   obtain⟨m,h1,h2⟩:=h.inv
   refine .snoc (ih w (by simpa using hl) m h1) ?_
   unfold cho at h2 ⊢
   rw [hal] at h2
   split
   ·rename_i hb
    rw [if_pos hb] at h2
    obtain⟨h3,h4⟩:=zD.1 h2
    obtain⟨e,h5,h6⟩:=(zds _ _ _ _).1 h4
    exact zD.2 ⟨h3,(zds _ _ _ _).2 ⟨e,he e h5,h6⟩⟩
   ·rename_i hb
    rw [if_neg hb] at h2
    exact h2
 exact⟨q,key _ v rfl q hq⟩
theorem keepsP_less {t u:Sys} {a:Aut}(hv:zj u=true)(hal:u.al=t.al)(he:∀ e∈u.edges,e∈t.edges)(h:zar [t] a=true):zar [u] a=true:=by
 obtain⟨⟨h1,h2⟩,h3⟩:=zdo.1 h
 refine zdo.2 ⟨⟨zfm (by simp) (by simp) (by simpa using hv),h2⟩,fun v ho hr=>h3 v (by simpa [zJ,hal] using ho) ?_⟩
 have:=hr u (by simp)
 simp only [List.mem_singleton,forall_eq]
 exact runs_less hal he this
theorem chain_fewer {x y z u:Sys} {p f g:Aut}(hv:zj u=true)(hal:u.al=z.al)(he:∀ e∈u.edges,e∈z.edges)(h:zaA [x,y,z] p f g=0):zaA [x,y,u] p f g=0:=by
 obtain⟨x',y',z',e,h1,h2,h3,h4,h5,h6,h7,h8⟩:=zez.1 h
 injection e with e1 e;injection e with e2 e;injection e with e3 _
 subst e1;subst e2;subst e3
 obtain⟨_,hpa,hpv⟩:=zcD.1 h1
 obtain⟨_,hvs⟩:=zan hpa
 have h1':three [x,y,u] p=true:=zcD.2 ⟨rfl,zfm (by simp) (by simp) (by
  intro s hs
  simp only [List.mem_cons,List.not_mem_nil,or_false] at hs
  rcases hs with rfl|rfl|rfl
  ·exact hvs _ (by simp)
  ·exact hvs _ (by simp)
  ·exact hv),hpv⟩
 obtain⟨e1,e2⟩:=zdZ h1
 obtain⟨e1',e2'⟩:=zdZ h1'
 have c1:zV [x,y,u] p=zV [x,y,z] p:=by rw [e1,e1',hal]
 have c2:zaK [x,y,u] p=zaK [x,y,z] p:=by rw [e2,e2',hal,c1]
 exact zez.2 ⟨x,y,u,rfl,h1',h2,h3,by rw [c1];exact h4,by rw [c2];exact h5,h6,h7,keepsP_less hv hal he h8⟩
set_option maxHeartbeats 4000000
def RetSt (N:Nat) (Q:Nat→Nat→Prop) (w:World) (e:Ending) (w':World):Prop:=
 ∃ (T:List Nat) (g c:Nat),e=.returned (.slice (some ⟨g,0,none⟩) N c)∧w'.ownsRow w.heap.size 3 1 (.slice (some ⟨g,0,none⟩) N c) N (nats T)∧zdD T N Q∧Ext w w'
def mset (s:Sys) (x l:Nat):Nat:=if s.al.toNat.testBit l then zcW s.edges x (l:Int) else x
theorem mset_bit {s:Sys}(hs:Sml s) (x l q':Nat):(mset s x l).testBit q'=true↔∃ q,x.testBit q=true∧q'∈cho s q l:=by
 unfold mset
 split
 ·rename_i h
  exact zgY hs h x q'
 ·rename_i h
  constructor
  ·intro h1;exact⟨q',h1,by unfold cho;rw [if_neg h];simp⟩
  ·rintro ⟨q,h1,h2⟩
   unfold cho at h2
   rw [if_neg h] at h2
   simp at h2
   rw [h2];exact h1
theorem mset_lt {s:Sys}(hs:Sml s) {x:Nat}(hx:x<65536) (l:Nat):mset s x l<65536:=by
 unfold mset
 split
 ·exact zgv hs _ _
 ·exact hx
structure MvI (s:Sys) (p:Aut) (l N:Nat) (T:List Nat) (k:Nat) (O:List Nat):Prop where
 len:O.length=N
 lt:∀ x∈O,x<65536
 bit:∀ j q',bitS O j q'↔∃ i q,i<k∧bitS T i q∧q'∈cho s q l∧j=aGo p i l
theorem MvI.step {s:Sys} {p:Aut} {l N k:Nat} {T O:List Nat}(h:MvI s p l N T k O)(hs:Sml s)(hp:zg p=true)(hN:N=p.next.length)(hT:∀ x∈T,x<65536)(hk:k<N)(hl:l<6) :
  MvI s p l N T (k+1) (O.set (aGo p k l) (O.getD (aGo p k l) 0|||mset s (T.getD k 0) l)):=by
 have hj:aGo p k l<O.length:=by rw [h.len,hN];exact zdW hp (by omega) hl
 refine⟨by rw [List.length_set];exact h.len,fun x hx=>?_,fun j q'=>?_⟩
 ·rcases List.mem_or_eq_of_mem_set hx with hx|rfl
  ·exact h.lt x hx
  ·exact Nat.or_lt_two_pow (n:=16) (zdJ h.lt _) (mset_lt hs (zdJ hT _) _)
 ·rw [zgA hj,h.bit,mset_bit hs]
  constructor
  ·rintro (⟨i,q,h1,h2,h3,h4⟩|⟨h1,q,h2,h3⟩)
   ·exact⟨i,q,by omega,h2,h3,h4⟩
   ·exact⟨k,q,by omega,h2,h3,h1⟩
  ·rintro ⟨i,q,h1,h2,h3,h4⟩
   rcases Nat.lt_or_eq_of_le (Nat.le_of_lt_succ h1) with h5|rfl
   ·exact .inl ⟨i,q,h5,h2,h3,h4⟩
   ·exact .inr ⟨h4,q,h2,h3⟩
theorem MvI.zero (s:Sys) (p:Aut) (l N:Nat) (T:List Nat):MvI s p l N T 0 (List.replicate N 0):=by
 refine⟨by simp,fun x hx=>by rw [List.mem_replicate] at hx;omega,fun j q'=>?_⟩
 constructor
 ·intro h
  unfold bitS at h
  rw [List.getD_eq_getElem?_getD] at h
  cases h1:(List.replicate N 0)[j]? with
  |none=>rw [h1] at h;simp at h
  |some x =>
   have:=List.mem_of_getElem? h1
   rw [List.mem_replicate] at this
   rw [h1,this.2] at h
   simp at h
 ·rintro ⟨_,_,h,_⟩;omega
theorem MvI.fin {s:Sys} {p:Aut} {l N:Nat} {T O:List Nat} {B:Nat→Nat→Prop}(h:MvI s p l N T N O)(hT:zdD T N B):zdD O N (mvB s p l B):=by
 refine⟨h.len,h.lt,fun j q'=>?_⟩
 rw [h.bit]
 constructor
 ·rintro ⟨i,q,h1,h2,h3,h4⟩
  exact⟨q,i,(hT.2.2 i q).1 h2,h3,h4⟩
 ·rintro ⟨q,i,h2,h3,h4⟩
  have hb:=(hT.2.2 i q).2 h2
  exact⟨i,q,by rw [← hT.1];exact bitS_lt hb,hb,h3,h4⟩
def badT (p:Aut) (T:List Nat) (N:Nat):Bool:=(List.range N).any fun i=>T.getD i 0 != 0&&!accB p i
theorem zgy {p:Aut} {T:List Nat} {N:Nat}:badT p T N=true↔∃ i,i<N∧T.getD i 0≠0∧accB p i=false:=by
 unfold badT
 rw [List.any_eq_true]
 constructor
 ·rintro ⟨i,h1,h2⟩
  rw [List.mem_range] at h1
  simp only [Bool.and_eq_true,bne_iff_ne,Bool.not_eq_true'] at h2
  exact⟨i,h1,h2.1,h2.2⟩
 ·rintro ⟨i,h1,h2,h3⟩
  exact⟨i,List.mem_range.2 h1,by simp [h3];simpa using h2⟩
section
variable {w:World} {lo hi n c m d m' d' L:Nat} {A B B':Option Addr} {s:Sys} {p:Aut}
set_option maxRecDepth 100000 in
theorem spec_l9Start {N:Nat}(hS:zQ w lo hi A n s)(hP:zF w lo hi B m B' m' p)(hv:zj s=true)(hp:zg p=true)(hL:L<64)(hhi:hi≤w.heap.size)(hN:N=p.next.length) :
  Calls Tryz.prog 152 #[.agg #[.int .i64 s.al,.int .i64 s.st,.slice A n c,.int .i64 p.al,.slice B m d,.slice B' m' d',.int .i64 L]] w (RetSt N (PR s p L []) w):=by
 have hm:m=N:=hP.n1.trans hN.symm
 subst hm
 have hN12:1≤m∧m≤12:=by have:=(zi hp).2.1;omega
 have HS:=hide (fun W (hW:Ext w W)=>hS.ext hW)
 have HP:=hide (fun W (hW:Ext w W)=>hP.ext hW)
 have HN:=hide hN
 have hw1:Ext w (w.alloc (.cells #[.int .i64 s.al,.int .i64 s.st,.slice A n c,.int .i64 p.al,.slice B m d,.slice B' m' d',.int .i64 L] 98)):=(Ext.refl _).alloc _
 have b1:=Blk.new w 98 #[.int .i64 s.al,.int .i64 s.st,.slice A n c,.int .i64 p.al,.slice B m d,.slice B' m' d',.int .i64 L]
 have hb1:=b1.lt
 clear hS hP hN
 go_enter Tryz.func152,Tryz.ntmps152
 go_upto_region 1 with fail
 generalize w.alloc (.cells #[.int .i64 s.al,.int .i64 s.st,.slice A n c,.int .i64 p.al,.slice B m d,.slice B' m' d',.int .i64 L] 98)=w1 at *
 have k1:=b1.cell
 go_upto_region 2 with (at_make;refine zbE w1 w1 rfl _ _ 71 rfl 3 _ 1 8 Tryz.underlying71 zY _ _ m rfl rfl (Ext.refl _) (by omega) (by unfold maxLen;omega) ?_;intro w2 hx2 hown2 hx23 hsz2)
 rw [madeZ] at hown2
 have hst:=(hown2.stored 0 (.int .i64 1)).1
 rw [show (nats (List.replicate m 0)).set 0 (.int .i64 1)=nats ((List.replicate m 0).set 0 1) from (zfj (i:=0) (v:=1) (R:=List.replicate m 0)).symm] at hst
 have hfz:=hown2.frozenAt 0
 have hc0:=zcK hown2 (show 0<m by omega)
 have hw3:=(hw1.trans hx2).setCell (p:=⟨w1.heap.size,0,none⟩) hw1.size (.int .i64 1)
 have hb2:=(b1.ext hx2).far (p:=⟨w1.heap.size,0,none⟩) (by dsimp only;omega) (.int .i64 1)
 have h0m:(0:Int)<(m:Int):=by omega
 clear k1
 have k1:=hb2.cell
 have hH:=hide (fun T' (hT':zdD T' m (fun q i=>q=0∧i=0))=>hT')
 have hS3:=HS.out _ hw3
 have hP3:=HP.out _ hw3
 have hT0:=stand_start hN12.1
 have hsz:=hw1.size
 clear hx23
 go_wp2_with fail
 refine (zeQ (c:=c) (d:=d) (d':=d') hS3 hP3 hv hp hL HN.out (by omega) hst hT0).mono ?_
 rintro e w4 ⟨T',rfl,hown4,hT4,hfr4⟩
 go_wp2_with fail
 go_ret
 exact⟨T',w1.heap.size,m,rfl,zn hown4 hw1.size,hT4,hw3.frm hfr4 (fun k hk e=>by omega)⟩
theorem spec_l9Move {N l g0 b0 c0:Nat} {T:List Nat} {Q:Nat→Nat→Prop}(hS:zQ w lo hi A n s)(hP:zF w lo hi B m B' m' p)(hv:zj s=true)(hp:zg p=true)(hL:L<64)(hhi:hi≤w.heap.size)(hN:N=p.next.length)(hl:l<6)
  (hown:w.ownsRow b0 3 1 (.slice (some ⟨g0,0,none⟩) N c0) N (nats T)) (hT:zdD T N Q) :
  Calls Tryz.prog 154 #[.agg #[.int .i64 s.al,.int .i64 s.st,.slice A n c,.int .i64 p.al,.slice B m d,.slice B' m' d',.int .i64 L],.slice (some ⟨g0,0,none⟩) N c0,.int .i64 l] w (RetSt N (Cl s p L (mvB s p l Q)) w):=by
 have hsm:=zci hv
 obtain⟨ha0,ha1⟩:=zI hv
 obtain⟨al,hal⟩:∃ al:Nat,Hid (s.al=al):=⟨s.al.toNat,by unfold Hid;omega⟩
 have hal64:al<64:=by have:=hal.out;omega
 have hto:=hide (show s.al.toNat=al by have:=hal.out;omega)
 have hN12:1≤N∧N≤12:=by have:=(zi hp).2.1;omega
 have HS:=hide (fun W (hW:Ext w W)=>hS.ext hW)
 have HP:=hide (fun W (hW:Ext w W)=>hP.ext hW)
 have HN:=hide hN
 have HT:=hide hT
 have hgw:=(hown.lt g0 rfl).2
 have hw1:Ext w (w.alloc (.cells #[.int .i64 s.al,.int .i64 s.st,.slice A n c,.int .i64 p.al,.slice B m d,.slice B' m' d',.int .i64 L] 98)):=(Ext.refl _).alloc _
 have b1:=Blk.new w 98 #[.int .i64 s.al,.int .i64 s.st,.slice A n c,.int .i64 p.al,.slice B m d,.slice B' m' d',.int .i64 L]
 have hb1:=b1.lt
 clear hS hP hN hT
 go_enter Tryz.func154,Tryz.ntmps154
 go_upto_region 1 with fail
 generalize w.alloc (.cells #[.int .i64 s.al,.int .i64 s.st,.slice A n c,.int .i64 p.al,.slice B m d,.slice B' m' d',.int .i64 L] 98)=w1 at *
 go_wp2_with (at_make;refine zbE w1 w1 rfl _ _ 71 rfl 3 _ 1 8 Tryz.underlying71 zY _ _ N rfl rfl (Ext.refl _) (by omega) (by unfold maxLen;omega) ?_;intro w2 hx2 hown2 hx23 hsz2)
 rw [madeZ] at hown2
 have hsz1:=hw1.size
 have hw2:=hw1.trans hx2
 clear hx23
 obtain⟨gO,hgO⟩:∃ gO,gO=w1.heap.size:=⟨_,rfl⟩
 rw [← hgO] at hown2 ⊢
 have hOw:w.heap.size<gO:=by omega
 clear hgO
 go_loopw [8] (fun iv wr=>∃ (i:Nat) (O:List Nat),iv=.int .i64 i∧i≤N∧Hid (MvI s p l N T i O)∧wr.ownsRow gO 3 1 (.slice (some ⟨gO,0,none⟩) N N) N (nats O)∧Frm (fun k=>k=gO) w2 wr) (fun iv _=>N - (intOf iv).toNat)
 case atStart=>exact⟨0,_,rfl,Nat.zero_le _,hide (MvI.zero s p l N T),hown2,Frm.refl _ _⟩
 case round =>
  clear hown2
  obtain⟨i,O,rfl,hi,hO,hownO,hfr⟩:=hrel
  have hxr:Ext w wr:=hw2.frm hfr (fun k hk e=>by omega)
  have k1:=((b1.ext hx2).frm hfr (by omega)).cell
  by_cases hlt:i<N
  ·have hlt':(i:Int)<(N:Int):=by omega
   have cI:=zcK (zf hown hxr) hlt
   obtain⟨x,hx⟩:∃ x,Hid (T.getD i 0=x):=⟨_,rfl⟩
   have hx16:x<65536:=by rw [← hx.out];exact zdJ HT.out.2.1 i
   rw [hx.out] at cI
   have CB:∀ W,Ext wr W→∀ q,W.cell? ⟨w.heap.size,q,none⟩=#[Value.int .i64 al,.int .i64 s.st,.slice A n c,.int .i64 p.al,.slice B m d,.slice B' m' d',.int .i64 L][q]?:=fun W hW q=>by rw [(((b1.ext hx2).frm hfr (by omega)).ext hW).cell,hal.out]
   have CI:∀ W,Ext wr W→W.cell? ⟨g0,i,none⟩=some (.int .i64 (x:Nat)):=fun W hW=>hW.cell_some cI
   obtain⟨j,hj⟩:∃ j,Hid (aGo p i l=j):=⟨_,rfl⟩
   have hjN:j<N:=by rw [← hj.out,HN.out];exact zdW hp (by rw [← HN.out];exact hlt) hl
   have hjN':(j:Int)<(N:Int):=by omega
   obtain⟨v,hv0⟩:∃ v,Hid (O.getD j 0=v):=⟨_,rfl⟩
   obtain⟨y,hy⟩:∃ y,Hid (mset s x l=y):=⟨_,rfl⟩
   obtain⟨u,hu⟩:∃ u,Hid (v|||y=u):=⟨_,rfl⟩
   have hv16:v<65536:=by rw [← hv0.out];exact zdJ hO.out.lt j
   have hy16:y<65536:=by rw [← hy.out];exact mset_lt hsm hx16 l
   have hor:=zaO (a:=v) (b:=y) (by unfold Sm;omega) (by unfold Sm;omega)
   rw [hu.out] at hor
   have CJ:∀ W,Ext wr W→W.cell? ⟨gO,j,none⟩=some (.int .i64 (v:Nat)):=fun W hW=>hW.cell_some (hv0.out ▸ zcK hownO hjN)
   have FJ:∀ W,Ext wr W→W.frozen? ⟨gO,j,none⟩=false:=fun W hW=>(zf hownO hW).frozenAt j
   have hstep:=hO.out.step hsm hp HN.out HT.out.2.1 hlt hl
   rw [hj.out,hv0.out,hx.out,hy.out,hu.out] at hstep
   have Hstep:=hide hstep
   have Hst:=hide (fun W (hW:Ext wr W)=>((zf hownO hW).stored j (.int .i64 (u:Nat))).1)
   have hww:=Ext.refl wr
   clear hstep k1 cI
   cases hb:al.testBit l
   ·have Hb:=hide hb
    have hyx:x=y:=by rw [← hy.out];unfold mset;rw [hto.out,hb];rfl
    subst hyx
    clear hb
    go_wp2_with (first
     |(go_at_call 147;refine (zad al l (by unfold Sm;omega) _ (by omega)).mono ?_;rw [Hb.out];rintro e w' ⟨rfl,rfl⟩)
     |(go_at_call 198;refine (zcA (HP.out _ hxr) hp (by rw [← HN.out];exact hlt) hl).mono ?_;rw [hj.out];rintro e w4 ⟨rfl,hx4⟩))
    have hst:=Hst.out w4 hx4
    rw [← zfj] at hst
    go_roundw
    case rel=>exact⟨i+1,O.set j u,by go_num,by omega,Hstep,hst,(hfr.ext hx4).trans (Frm.setCell _ gO j _)⟩
    case measure=>simp [intOf];omega
   ·have Hb:=hide hb
    have hyx:Hid (zcW s.edges x (l:Int)=y):=by unfold Hid;rw [← hy.out];unfold mset;rw [hto.out,hb];rfl
    clear hb
    go_wp2_with (first
     |(go_at_call 147;refine (zad al l (by unfold Sm;omega) _ (by omega)).mono ?_;rw [Hb.out];rintro e w' ⟨rfl,rfl⟩)
     |(go_at_call 129;rw [← hal.out];refine (zfO (c:=c) (k0:=s.st.toNat) (HS.out _ hxr) hsm.2.2.1 (by have:=hsm.2.1;omega) (by unfold Sm;omega)).mono ?_;rw [hyx.out];rintro e w3 ⟨rfl,hx3⟩;have hxr3:=hxr.trans hx3)
     |(go_at_call 198;refine (zcA (HP.out _ hxr3) hp (by rw [← HN.out];exact hlt) hl).mono ?_;rw [hj.out];rintro e w4 ⟨rfl,hx4⟩;have hx34:=hx3.trans hx4))
    have hst:=Hst.out w4 hx34
    rw [← zfj] at hst
    go_roundw
    case rel=>exact⟨i+1,O.set j u,by go_num,by omega,Hstep,hst,(hfr.ext hx34).trans (Frm.setCell _ gO j _)⟩
    case measure=>simp [intOf];omega
  ·obtain rfl:i=N:=by omega
   have hfin:=hO.out.fin HT.out
   go_wp2_with fail
   refine (zeQ (c:=c) (d:=d) (d':=d') (HS.out _ hxr) (HP.out _ hxr) hv hp hL HN.out (by omega) hownO hfin).mono ?_
   rintro e w4 ⟨T',rfl,hown4,hT4,hfr4⟩
   go_wp2_with fail
   go_ret
   exact⟨T',gO,i,rfl,zn hown4 (by omega),hT4,hxr.frm hfr4 (fun k hk e=>by omega)⟩
end
set_option maxHeartbeats 4000000
noncomputable def zq (s:Sys) (p:Aut) (L:Nat) (t:ByteArray):Bool:=by
 classical exact inB t L&&decide (SafeW s p L (wl t))
theorem zfI {s:Sys} {p:Aut} {L:Nat} {t:ByteArray}:zq s p L t=true↔inB t L=true∧SafeW s p L (wl t):=by
 unfold zq
 simp
section
variable {w:World} {lo hi n c m d m' d' L:Nat} {A B B':Option Addr} {s:Sys} {p:Aut}
set_option maxRecDepth 100000 in
theorem spec_l9Bad {N g0 b0 c0:Nat} {T:List Nat}(hP:zF w lo hi B m B' m' p)(hp:zg p=true)(hN:N=p.next.length)
  (hown:w.ownsRow b0 3 1 (.slice (some ⟨g0,0,none⟩) N c0) N (nats T)) :
  Calls Tryz.prog 153 #[.agg #[.int .i64 s.al,.int .i64 s.st,.slice A n c,.int .i64 p.al,.slice B m d,.slice B' m' d',.int .i64 L],.slice (some ⟨g0,0,none⟩) N c0] w fun e w'=>e=.returned (.bool (badT p T N))∧Ext w w':=by
 have hN12:1≤N∧N≤12:=by have:=(zi hp).2.1;omega
 have hm':m'=N:=by rw [hP.n2,(zi hp).2.2.1,hN]
 have HB:=hide (fun W (hW:Ext w W) q hq=>zdX (q:=q) (hP.ext hW) hq)
 have hw1:Ext w (w.alloc (.cells #[.int .i64 s.al,.int .i64 s.st,.slice A n c,.int .i64 p.al,.slice B m d,.slice B' m' d',.int .i64 L] 98)):=(Ext.refl _).alloc _
 have b1:=Blk.new w 98 #[.int .i64 s.al,.int .i64 s.st,.slice A n c,.int .i64 p.al,.slice B m d,.slice B' m' d',.int .i64 L]
 subst hm'
 clear hP hN
 go_enter Tryz.func153,Tryz.ntmps153
 go_upto_region 1 with fail
 generalize w.alloc (.cells #[.int .i64 s.al,.int .i64 s.st,.slice A n c,.int .i64 p.al,.slice B m d,.slice B' m' d',.int .i64 L] 98)=w1 at *
 have k1:=b1.cell
 go_wp2_with fail
 go_loop [5] (fun iv=>∃ i:Nat,iv=.int .i64 i∧i≤m'∧Hid (∀ j,j<i→T.getD j 0=0∨accB p j=true)) (fun iv=>m' - (intOf iv).toNat)
 case atStart=>exact⟨0,rfl,Nat.zero_le _,hide (fun j h=>by omega)⟩
 case round =>
  obtain⟨i,rfl,hi,hdone⟩:=hrel
  by_cases hlt:i<m'
  ·have hlt':(i:Int)<(m':Int):=by omega
   obtain⟨ad,rfl,cA⟩:=HB.out w1 hw1 i hlt
   have cI:=zcK (zf hown hw1) hlt
   obtain⟨x,hx⟩:∃ x,Hid (T.getD i 0=x):=⟨_,rfl⟩
   rw [hx.out] at cI
   by_cases h0:x=0
   ·subst h0
    go_wp2_with fail
    go_round
    case rel=>exact⟨i+1,by go_num,by omega,hide (fun j hj=>by
     rcases Nat.lt_or_eq_of_le (Nat.le_of_lt_succ hj) with h1|rfl
     ·exact hdone.out j h1
     ·exact .inl hx.out)⟩
    case measure=>simp [intOf];omega
   ·have hne:((x:Int) != 0)=true:=by simp;omega
    cases hacc:accB p i
    ·have hb:=hide (show badT p T m'=true from zgy.2 ⟨i,hlt,by rw [hx.out];exact h0,hacc⟩)
     rw [hacc] at cA
     clear hacc h0
     go_wp2_with fail
     go_ret
     exact⟨zk (by rw [hb.out]),hw1⟩
    ·have Hacc:=hide hacc
     rw [hacc] at cA
     clear hacc h0
     go_wp2_with fail
     go_round
     case rel=>exact⟨i+1,by go_num,by omega,hide (fun j hj=>by
      rcases Nat.lt_or_eq_of_le (Nat.le_of_lt_succ hj) with h1|rfl
      ·exact hdone.out j h1
      ·exact .inr Hacc.out)⟩
     case measure=>simp [intOf];omega
  ·obtain rfl:i=m':=by omega
   have hb:=hide (show badT p T i=false by
    rw [Bool.eq_false_iff]
    intro h
    obtain⟨j,h1,h2,h3⟩:=zgy.1 h
    rcases hdone.out j h1 with h4|h4
    ·exact h2 h4
    ·rw [h3] at h4;cases h4)
   go_wp2_with fail
   go_ret
   exact⟨zk (by rw [hb.out]),hw1⟩
set_option maxRecDepth 100000 in
theorem zdB (hS:zQ w lo hi A n s)(hP:zF w lo hi B m B' m' p)(hv:zj s=true)(hp:zg p=true)(hL:L<64) :
  Calls Tryz.prog 150 #[.agg #[.int .i64 s.al,.int .i64 s.st,.slice A n c,.int .i64 p.al,.slice B m d,.slice B' m' d',.int .i64 L]] w fun e w'=>e=.returned (.bool true)∧Ext w w':=by
 have HS:=hide (fun W (hW:Ext w W)=>zaf (c:=c) (hS.ext hW))
 have HP:=hide (fun W (hW:Ext w W)=>zx _ _ _ _ d _ _ d' _ _ (hP.ext hW))
 rw [hv] at HS
 rw [hp] at HP
 have hal:=hide (show (decide ((0:Int)≤L∧(L:Int)≤63))=true by simp;omega)
 have hw1:Ext w (w.alloc (.cells #[.int .i64 s.al,.int .i64 s.st,.slice A n c,.int .i64 p.al,.slice B m d,.slice B' m' d',.int .i64 L] 98)):=(Ext.refl _).alloc _
 have b1:=Blk.new w 98 #[.int .i64 s.al,.int .i64 s.st,.slice A n c,.int .i64 p.al,.slice B m d,.slice B' m' d',.int .i64 L]
 clear hS hP hv hp
 go_enter Tryz.func150,Tryz.ntmps150
 go_upto_region 1 with fail
 generalize w.alloc (.cells #[.int .i64 s.al,.int .i64 s.st,.slice A n c,.int .i64 p.al,.slice B m d,.slice B' m' d',.int .i64 L] 98)=w1 at *
 have CB:=b1.cells
 have hww:=Ext.refl w1
 go_wp2_with (first
  |(go_at_call 112;refine (HS.out _ hw1).mono ?_;rintro e w2 ⟨rfl,hx2⟩)
  |(go_at_call 46;refine (HP.out _ (hw1.trans hx2)).mono ?_;rintro e w3 ⟨rfl,hx3⟩;have hx23:=hx2.trans hx3)
  |(go_at_call 96;refine (zM _ _).mono ?_;rw [hal.out];rintro e w4 ⟨rfl,rfl⟩))
 go_ret
 exact⟨rfl,hw1.trans hx23⟩
theorem zgz {N k:Nat} {T v:List Nat}(h:zdD T N (PR s p L (v.take k))):badT p T N=true↔Bad s p L (v.take k):=zgy.trans (stand_bad h).symm
set_option maxRecDepth 100000 in
theorem zcN {t:ByteArray}(hS:zQ w lo hi A n s)(hP:zF w lo hi B m B' m' p)(hv:zj s=true)(hp:zg p=true)(hL:L<64)(hhi:hi≤w.heap.size)(ht:t.size≤9223372036854775807) :
  Calls Tryz.prog 83 #[.agg #[.int .i64 s.al,.int .i64 s.st,.slice A n c,.int .i64 p.al,.slice B m d,.slice B' m' d',.int .i64 L],.string t] w fun e w'=>e=.returned (.bool (zq s p L t))∧Ext w w':=by
 obtain⟨N,hN⟩:∃ N,Hid (N=p.next.length):=⟨_,rfl⟩
 have HV:=hide (fun W (hW:Ext w W)=>zdB (c:=c) (d:=d) (d':=d') (L:=L) (hS.ext hW) (hP.ext hW) hv hp hL)
 have HSt:=hide (fun W (hW:Ext w W)=>spec_l9Start (c:=c) (d:=d) (d':=d') (L:=L) (N:=N) (hS.ext hW) (hP.ext hW) hv hp hL (Nat.le_trans hhi hW.size) hN.out)
 have HB:=hide (fun (g0 b0 c0:Nat) (T:List Nat) W (hW:Ext w W) (ho:W.ownsRow b0 3 1 (.slice (some ⟨g0,0,none⟩) N c0) N (nats T))=>spec_l9Bad (A:=A) (n:=n) (c:=c) (d:=d) (d':=d') (L:=L) (s:=s) (hP.ext hW) hp hN.out ho)
 have HM:=hide (fun (l g0 b0 c0:Nat) (T:List Nat) (Q:Nat→Nat→Prop) W (hW:Ext w W) (hl:l<6) (ho:W.ownsRow b0 3 1 (.slice (some ⟨g0,0,none⟩) N c0) N (nats T)) (hT:zdD T N Q)=>spec_l9Move (c:=c) (d:=d) (d':=d') (L:=L) (hS.ext hW) (hP.ext hW) hv hp hL (Nat.le_trans hhi hW.size) hN.out hl ho hT)
 have hw1:Ext w (w.alloc (.cells #[.int .i64 s.al,.int .i64 s.st,.slice A n c,.int .i64 p.al,.slice B m d,.slice B' m' d',.int .i64 L] 98)):=(Ext.refl _).alloc _
 have b1:=Blk.new w 98 #[.int .i64 s.al,.int .i64 s.st,.slice A n c,.int .i64 p.al,.slice B m d,.slice B' m' d',.int .i64 L]
 clear hS hP
 cases hin:inB t L
 ·have Hin:=hide hin
  have hfin:=hide (show zq s p L t=false by rw [Bool.eq_false_iff];intro h;have:=(zfI.1 h).1;rw [hin] at this;cases this)
  clear hin
  go_enter Tryz.func83,Tryz.ntmps83
  go_upto_region 1 with fail
  generalize w.alloc (.cells #[.int .i64 s.al,.int .i64 s.st,.slice A n c,.int .i64 p.al,.slice B m d,.slice B' m' d',.int .i64 L] 98)=w1 at *
  have CB:=b1.cells
  have hww:=Ext.refl w1
  go_wp2_with (first
   |(go_at_call 150;refine (HV.out _ hw1).mono ?_;rintro e w2 ⟨rfl,hx2⟩)
   |(go_at_call 151;refine (zaF ht (by omega)).mono ?_;rw [Hin.out];rintro e w3 ⟨rfl,rfl⟩))
  go_ret
  exact⟨zk (by rw [hfin.out]),hw1.trans hx2⟩
 ·have Hin:=hide hin
  have Hb:=hide (fun k hk=>zbe (zbf hin) (k:=k) hk)
  clear hin
  go_enter Tryz.func83,Tryz.ntmps83
  go_upto_region 1 with fail
  generalize w.alloc (.cells #[.int .i64 s.al,.int .i64 s.st,.slice A n c,.int .i64 p.al,.slice B m d,.slice B' m' d',.int .i64 L] 98)=w1 at *
  have CB:=b1.cells
  have hww:=Ext.refl w1
  go_wp2_with (first
   |(go_at_call 150;refine (HV.out _ hw1).mono ?_;rintro e w2 ⟨rfl,hx2⟩)
   |(go_at_call 151;refine (zaF ht (by omega)).mono ?_;rw [Hin.out];rintro e w3 ⟨rfl,rfl⟩)
   |(go_at_call 152;refine (HSt.out _ (hw1.trans hx2)).mono ?_;rintro e w4 ⟨T,g,cc,rfl,hown,hT,hx4⟩;have hx14:=hx2.trans hx4))
  go_loopw [5,6] (fun v iv wr=>∃ (k g b0 cc:Nat) (T:List Nat),iv=.int .i64 k∧k≤t.size∧v=.slice (some ⟨g,0,none⟩) N cc∧wr.ownsRow b0 3 1 (.slice (some ⟨g,0,none⟩) N cc) N (nats T)∧Hid (zdD T N (PR s p L ((wl t).take k)))∧Hid (∀ j,j<k→¬ Bad s p L ((wl t).take j))∧Ext w1 wr) (fun _ iv _=>t.size - (intOf iv).toNat)
  case atStart=>exact⟨0,g,_,cc,T,rfl,Nat.zero_le _,rfl,hown,hide (by simpa using hT),hide (fun j h=>by omega),hx14⟩
  case round =>
   clear hown hT hx2 hx4 hx14
   obtain⟨k,g,b0,cc,T,rfl,hk,rfl,hown,hT,hdone,hxr⟩:=hrel
   by_cases hlt:k<t.size
   ·have hlt':(k:Int)<(t.size:Int):=by omega
    obtain⟨l,hl⟩:∃ l:Nat,Hid ((t[k].toNat:Int) - 97=l):=⟨t[k].toNat - 97,by unfold Hid;have:=Hb.out k hlt;omega⟩
    have hl6:l<6:=by have:=hl.out;have:=Hb.out k hlt;omega
    have hst:=hide (show (wl t).take (k+1)=(wl t).take k++[l] by rw [List.take_add_one,zeu hlt,Option.toList_some,show t[k].toNat - 97=l by have:=hl.out;have:=Hb.out k hlt;omega])
    cases hbad:badT p T N
    ·have Hbad:=hide hbad
     have hnb:=hide (show ¬ Bad s p L ((wl t).take k) by rw [← zgz hT.out,hbad];decide)
     clear hbad
     go_wp2_with (first|(go_at_call 153;refine (HB.out _ _ _ _ _ (hw1.trans hxr) hown).mono ?_;rw [Hbad.out];rintro e w5 ⟨rfl,hx5⟩;have hxr5:=hxr.trans hx5))
     have HMr:=hide (fun W (hW:Ext wr W)=>HM.out l g b0 cc T _ W ((hw1.trans hxr).trans hW) hl6 (zf hown hW) hT.out)
     have CBr:∀ W,Ext wr W→∀ q,W.cell? ⟨w.heap.size,q,none⟩=#[Value.int .i64 s.al,.int .i64 s.st,.slice A n c,.int .i64 p.al,.slice B m d,.slice B' m' d',.int .i64 L][q]?:=fun W hW=>CB W (hxr.trans hW)
     go_region_held3 (fun W=>Ext wr W) (first|assumption|(refine Ext.drew ?_;assumption)|(refine Ext.trans ?_ (by assumption);assumption)|(refine Ext.trans ?_ (by assumption);refine Ext.drew ?_;assumption)) (first
      |(go_at_call 148;refine (zbb t k hlt _).mono ?_;rw [hl.out];rintro e w6 ⟨rfl,rfl⟩)
      |(go_at_call 154;refine (HMr.out _ ?_).mono ?_;(first|assumption|(refine Ext.drew ?_;assumption));rintro e w7 ⟨T7,g7,c7,rfl,hown7,hT7,hx7⟩))
     have hx17:Ext w1 w7:=hxr.trans (by assumption)
     rw [← PR_snoc,← hst.out] at hT7
     have HT7:=hide hT7
     clear hT7 HMr CBr
     go_wp2_with fail
     go_roundw
     case rel=>exact⟨k+1,g7,_,c7,T7,by go_num,by omega,rfl,hown7,HT7,hide (fun j hj=>by
      rcases Nat.lt_or_eq_of_le (Nat.le_of_lt_succ hj) with h1|rfl
      ·exact hdone.out j h1
      ·exact hnb.out),hx17⟩
     case measure=>simp [intOf];omega
    ·have Hbad:=hide hbad
     have hfin:=hide (show zq s p L t=false by
      rw [Bool.eq_false_iff]
      intro h
      exact (zfI.1 h).2 k (by rw [zfW];omega) ((zgz hT.out).1 hbad))
     clear hbad
     go_wp2_with (first
      |(go_at_call 153;with_reducible refine (HB.out _ _ _ _ _ (hw1.trans hxr) hown).mono ?_;rw [Hbad.out];rintro e w5 ⟨rfl,hx5⟩;have hxr5:=hxr.trans hx5)
      |(go_at_call 153;refine (HB.out _ _ _ _ _ (hw1.trans hxr5) (zf hown hx5)).mono ?_;rw [Hbad.out];rintro e w6 ⟨rfl,hx6⟩))
     go_ret
     exact⟨zk (by rw [hfin.out]),hw1.trans (hxr5.trans hx6)⟩
   ·have hkt:k=t.size:=by omega
    have hge:(t.size:Int)≤(k:Int):=by omega
    have hfin:=hide (show zq s p L t=!badT p T N by
     rw [Bool.eq_iff_iff,zfI,Bool.not_eq_true',← Bool.not_eq_true,zgz hT.out]
     constructor
     ·intro h;exact h.2 k (by rw [zfW];omega)
     ·intro h
      refine⟨Hin.out,fun j hj=>?_⟩
      rw [zfW] at hj
      rcases Nat.lt_or_eq_of_le hj with h1|rfl
      ·exact hdone.out j (by omega)
      ·rw [hkt] at h;exact h)
    clear hkt hlt hk
    go_wp2_with (first
     |(go_at_call 153;refine (HB.out _ _ _ _ _ (hw1.trans hxr) hown).mono ?_;rintro e w6 ⟨rfl,hx6⟩))
    go_ret
    exact⟨zk (by rw [hfin.out]),hw1.trans (hxr.trans hx6)⟩
end
set_option maxHeartbeats 2000000
def RetNumS (w:World) (e:Ending) (w':World):Prop:=∃ (n:Int) (ok:Bool),e=.returned (.tuple #[.int .i64 n,.bool ok])∧w=w'
set_option maxRecDepth 100000 in
theorem zcP {s:ByteArray} {w:World}(hs:s.size≤1000000) :
  Calls Tryz.prog 170 #[.string s] w (RetNumS w):=by
 by_cases h0:s.size=0
 ·have h0':¬ 0<s.size:=by omega
  go_enter Tryz.func170,Tryz.ntmps170
  go_wp2
  go_ret2
  exact⟨0,false,rfl,rfl⟩
 have h0':0<s.size:=by omega
 cases hm:((s[0].toNat:Int)==45)
 ·have hq0:0<s.size:=h0'
  by_cases z0:s.size=0
  ·go_enter Tryz.func170,Tryz.ntmps170
   go_wp2
   go_ret2
   exact⟨0,false,rfl,rfl⟩
  have z1:0<s.size:=by omega
  have z1':((s.size:Int)==0)=false:=by rw [beq_eq_false_iff_ne];omega
  by_cases z2:17<s.size
  ·have z2':(17:Int)<(s.size:Int):=by omega
   go_enter Tryz.func170,Tryz.ntmps170
   go_wp2
   go_ret2
   exact⟨0,false,rfl,rfl⟩
  have z2':(s.size:Int)≤17:=by omega
  cases z3:((s[0].toNat:Int)==48)
  ·go_enter Tryz.func170,Tryz.ntmps170
   go_wp2_with fail
   go_loop [5,6] (fun v i=>∃ (k:Nat) (n:Int),k≤s.size∧i=.int .i64 k∧v=.int .i64 n) (fun _ i=>s.size - (intOf i).toNat)
   case atStart=>exact⟨0,0,Nat.zero_le _,rfl,rfl⟩
   case round =>
    obtain⟨k,n,hk,rfl,rfl⟩:=hrel
    by_cases hlt:k<s.size
    ·have hb:=zbT s k hlt
     by_cases c0:(s[k].toNat:Int)<48
     ·go_wp2_with fail
      go_ret2
      exact⟨0,false,rfl,rfl⟩
     ·by_cases c1:57<(s[k].toNat:Int)
      ·go_wp2_with fail
       go_ret2
       exact⟨0,false,rfl,rfl⟩
      ·go_wp2_with fail
       go_round
       case rel=>exact⟨k+1,_,by omega,by go_num,rfl⟩
       case measure=>simp [intOf];omega
    ·obtain rfl:k=s.size:=by omega
     go_wp2_with fail
     go_ret2
     exact⟨_,true,rfl,rfl⟩
  ·by_cases z4:1<s.size
   ·have z4':(1:Int)<(s.size:Int):=by omega
    go_enter Tryz.func170,Tryz.ntmps170
    go_wp2
    go_ret2
    exact⟨0,false,rfl,rfl⟩
   ·have z4':(s.size:Int)≤1:=by omega
    go_enter Tryz.func170,Tryz.ntmps170
    go_wp2_with fail
    go_loop [5,6] (fun v i=>∃ (k:Nat) (n:Int),k≤s.size∧i=.int .i64 k∧v=.int .i64 n) (fun _ i=>s.size - (intOf i).toNat)
    case atStart=>exact⟨0,0,Nat.zero_le _,rfl,rfl⟩
    case round =>
     obtain⟨k,n,hk,rfl,rfl⟩:=hrel
     by_cases hlt:k<s.size
     ·have hb:=zbT s k hlt
      by_cases c0:(s[k].toNat:Int)<48
      ·go_wp2_with fail
       go_ret2
       exact⟨0,false,rfl,rfl⟩
      ·by_cases c1:57<(s[k].toNat:Int)
       ·go_wp2_with fail
        go_ret2
        exact⟨0,false,rfl,rfl⟩
       ·go_wp2_with fail
        go_round
        case rel=>exact⟨k+1,_,by omega,by go_num,rfl⟩
        case measure=>simp [intOf];omega
     ·obtain rfl:k=s.size:=by omega
      go_wp2_with fail
      go_ret2
      exact⟨_,true,rfl,rfl⟩
 ·obtain⟨y,hy⟩:∃ y,s.extract 1 s.size=y:=⟨_,rfl⟩
  have hyl:y.size=s.size - 1:=by rw [← hy,ByteArray.size_extract];omega
  have hyb:y.size≤1000000:=by omega
  have Hyl:=hide hyl
  clear hyl
  have h01:(1:Int)≤(s.size:Int):=by omega
  by_cases z0:y.size=0
  ·go_enter Tryz.func170,Tryz.ntmps170
   go_wp2
   go_ret2
   exact⟨0,false,rfl,rfl⟩
  have z1:0<y.size:=by omega
  have z1':((y.size:Int)==0)=false:=by rw [beq_eq_false_iff_ne];omega
  by_cases z2:17<y.size
  ·have z2':(17:Int)<(y.size:Int):=by omega
   go_enter Tryz.func170,Tryz.ntmps170
   go_wp2
   go_ret2
   exact⟨0,false,rfl,rfl⟩
  have z2':(y.size:Int)≤17:=by omega
  cases z3:((y[0].toNat:Int)==48)
  ·go_enter Tryz.func170,Tryz.ntmps170
   go_wp2_with fail
   go_loop [5,6] (fun v i=>∃ (k:Nat) (n:Int),k≤y.size∧i=.int .i64 k∧v=.int .i64 n) (fun _ i=>y.size - (intOf i).toNat)
   case atStart=>exact⟨0,0,Nat.zero_le _,rfl,rfl⟩
   case round =>
    obtain⟨k,n,hk,rfl,rfl⟩:=hrel
    by_cases hlt:k<y.size
    ·have hb:=zbT y k hlt
     by_cases c0:(y[k].toNat:Int)<48
     ·go_wp2_with fail
      go_ret2
      exact⟨0,false,rfl,rfl⟩
     ·by_cases c1:57<(y[k].toNat:Int)
      ·go_wp2_with fail
       go_ret2
       exact⟨0,false,rfl,rfl⟩
      ·go_wp2_with fail
       go_round
       case rel=>exact⟨k+1,_,by omega,by go_num,rfl⟩
       case measure=>simp [intOf];omega
    ·obtain rfl:k=y.size:=by omega
     go_wp2_with fail
     go_ret2
     exact⟨_,true,rfl,rfl⟩
  ·by_cases z4:1<y.size
   ·have z4':(1:Int)<(y.size:Int):=by omega
    go_enter Tryz.func170,Tryz.ntmps170
    go_wp2
    go_ret2
    exact⟨0,false,rfl,rfl⟩
   ·have z4':(y.size:Int)≤1:=by omega
    go_enter Tryz.func170,Tryz.ntmps170
    go_wp2
    go_ret2
    exact⟨0,false,rfl,rfl⟩
set_option maxHeartbeats 2000000
theorem zm:(Tryz.prog.info? 9).map (fun i=>(i.zero,i.size,i.bytes))=some (some (.string ⟨#[]⟩),1,16):=by kernel_rfl
def RetStrs (L N:Nat) (w:World) (e:Ending) (w':World):Prop:=∃ (A:Option Addr) (n c:Nat) (l:List ByteArray),e=.returned (.slice A n c)∧n=l.length∧w'.ownsRow w.heap.size 9 1 (.slice A n c) n (strs l)∧(∀ x∈l,x.size≤L)∧n≤N∧Ext w w'
theorem zbI (x:ByteArray):∀ u∈(#[Value.string x]:Array Value).toList,u.oneCell'=true:=by simp [Value.oneCell']
theorem spec_l19Cut {s:ByteArray} {w:World}(hs:s.size≤1000000) :
  Calls Tryz.prog 158 #[.string s,.int .u8 32] w (RetStrs s.size (s.size+1) w):=by
 go_enter Tryz.func158,Tryz.ntmps158
 go_wp2_with fail
 go_loopw [5,6,7] (fun v f i wr=>∃ (k m:Nat) (l:List ByteArray),k≤s.size+1∧i=.int .i64 k∧m≤k∧f=.int .i64 m∧l.length≤k∧wr.ownsRow w.heap.size 9 1 v l.length (strs l)∧Hid (∀ x∈l,x.size≤s.size)∧Ext w wr) (fun _ _ i _=>s.size+1 - (intOf i).toNat)
 case atStart=>exact⟨0,0,[],Nat.zero_le _,rfl,Nat.le_refl _,rfl,Nat.le_refl _,World.ownsRow_lit w #[] 0 (Nat.le_refl _) (by unfold maxLen;omega) rfl,(fun x hx=>by cases hx),(Ext.refl _).alloc _⟩
 case round =>
  obtain⟨k,m,l,hk,rfl,hm,rfl,hl,hown,hlx,hext⟩:=hrel
  by_cases hle:k≤s.size
  ·have hle':(k:Int)≤(s.size:Int):=by omega
   have hm':(m:Int)≤(k:Int):=by omega
   have hex:=hide (show (s.extract m k).size≤s.size by rw [ByteArray.size_extract];omega)
   have hall:=hide (show ∀ x∈l++[s.extract m k],x.size≤s.size from fun x hx=>by
    rcases List.mem_append.1 hx with h1|h1
    ·exact hlx.out x h1
    ·rw [List.mem_singleton.1 h1];exact hex.out)
   by_cases he:k=s.size
   ·have heq:((k:Int)==(s.size:Int))=true:=by simp [he]
    have He:=hide he
    clear he
    go_wp2_with (at_builtin;refine zP w wr rfl _ _ _ rfl 9 _ 1 16 Tryz.underlying101 zm rfl (by decide) u5 _ _ _ _ rfl rfl hext hown rfl (zbI _) (by unfold maxLen;omega) (by omega) ?_;intro v' w1 hext1 hown1 hg1 hat1)
    go_roundw
    case rel=>exact⟨k+1,k+1,l++[s.extract m k],by omega,by go_num,by omega,by go_num,by simp;omega,by simpa [strs] using hown1,hall.out,by assumption⟩
    case measure=>simp [intOf];omega
   ·have heq:((k:Int)==(s.size:Int))=false:=by rw [beq_eq_false_iff_ne];omega
    have hlt:k<s.size:=by omega
    have hb:=zbT s k hlt
    cases hc:((s[k].toNat:Int)==32)
    ·go_wp2_with fail
     go_roundw
     case rel=>exact⟨k+1,m,l,by omega,by go_num,by omega,rfl,by omega,hown,hlx,hext⟩
     case measure=>simp [intOf];omega
    ·go_wp2_with (at_builtin;refine zP w wr rfl _ _ _ rfl 9 _ 1 16 Tryz.underlying101 zm rfl (by decide) u5 _ _ _ _ rfl rfl hext hown rfl (zbI _) (by unfold maxLen;omega) (by omega) ?_;intro v' w1 hext1 hown1 hg1 hat1)
     go_roundw
     case rel=>exact⟨k+1,k+1,l++[s.extract m k],by omega,by go_num,by omega,by go_num,by simp;omega,by simpa [strs] using hown1,hall.out,by assumption⟩
     case measure=>simp [intOf];omega
  ·obtain rfl:k=s.size+1:=by omega
   obtain⟨A,c,rfl⟩:=zh hown
   go_wp2_with fail
   go_ret
   exact⟨A,_,c,l,rfl,rfl,hown,hlx.out,by omega,hext⟩
def RetEdgeS (w:World) (e:Ending) (w':World):Prop:=∃ (x:Edg) (ok:Bool),e=.returned (.tuple #[.agg #[.int .i64 x.fr,.int .i64 x.le,.int .i64 x.ta],.bool ok])∧Ext w w'
set_option maxRecDepth 100000 in
theorem spec_l2Parse {s:ByteArray} {w:World}(hs:s.size≤1000000) :
  Calls Tryz.prog 171 #[.string s] w (RetEdgeS w):=by
 have hx1:=(Ext.refl w).alloc (.cells #[.int .i64 0,.int .i64 0,.int .i64 0] 126)
 have hbz:=Blk.new w 126 #[.int .i64 0,.int .i64 0,.int .i64 0]
 go_enter Tryz.func171,Tryz.ntmps171
 go_wp2_with fail
 generalize w.alloc (.cells #[.int .i64 0,.int .i64 0,.int .i64 0] 126)=w1 at *
 go_loop [4] (fun i=>∃ k:Nat,k≤s.size∧i=.int .i64 k) (fun i=>s.size - (intOf i).toNat)
 case atStart=>exact⟨0,Nat.zero_le _,rfl⟩
 case round =>
  obtain⟨k,hk,rfl⟩:=hrel
  have cz:=hbz.cell
  have fz:=hbz.frozen
  by_cases hlt:k<s.size
  ·have hb:=zbT s k hlt
   by_cases c0:(97:Int)≤(s[k].toNat:Int)
   ·by_cases c1:(s[k].toNat:Int)≤102
    ·have he1:=hide (show (s.extract 0 k).size≤1000000 by rw [ByteArray.size_extract];omega)
     have he2:=hide (show (s.extract (k+1) s.size).size≤1000000 by rw [ByteArray.size_extract];omega)
     have hk1:(k:Int)+1≤(s.size:Int):=by omega
     go_wp2_with fail
     refine (zcP he1.out).mono ?_
     rintro e w2 ⟨n1,ok1,rfl,rfl⟩
     go_wp2_with fail
     refine (zcP he2.out).mono ?_
     rintro e w2 ⟨n2,ok2,rfl,rfl⟩
     go_wp2_with fail
     refine (zbb s k hlt _).mono ?_
     rintro e w2 ⟨rfl,rfl⟩
     have hfin:∀ u0 u1 u2,Ext w (((w1.setCell ⟨w.heap.size,0,none⟩ u0).setCell ⟨w.heap.size,1,none⟩ u1).setCell ⟨w.heap.size,2,none⟩ u2):=fun u0 u1 u2=>((hx1.setCell (Nat.le_refl _) u0).setCell (Nat.le_refl _) u1).setCell (Nat.le_refl _) u2
     have Hfin:=hide hfin
     clear hfin
     cases ok1
     ·go_wp2_with fail
      exact bodyPost_ret (v:=.tuple #[.agg #[.int .i64 n1,.int .i64 ((s[k].toNat:Int) - 97),.int .i64 n2],.bool false]) (by simp [results,Tryz.results171,go_sem,cz]) rfl ⟨⟨n1,(s[k].toNat:Int) - 97,n2⟩,false,rfl,Hfin.out _ _ _⟩
     ·go_wp2_with fail
      exact bodyPost_ret (v:=.tuple #[.agg #[.int .i64 n1,.int .i64 ((s[k].toNat:Int) - 97),.int .i64 n2],.bool ok2]) (by simp [results,Tryz.results171,go_sem,cz]) rfl ⟨⟨n1,(s[k].toNat:Int) - 97,n2⟩,ok2,rfl,Hfin.out _ _ _⟩
    ·go_wp2_with fail
     go_round
     case rel=>exact⟨k+1,by omega,by go_num⟩
     case measure=>simp [intOf];omega
   ·go_wp2_with fail
    go_round
    case rel=>exact⟨k+1,by omega,by go_num⟩
    case measure=>simp [intOf];omega
  ·obtain rfl:k=s.size:=by omega
   go_wp2_with fail
   refine bodyPost_ret (v:=.tuple #[.agg #[.int .i64 0,.int .i64 0,.int .i64 0],.bool false]) (by simp [results,Tryz.results171,go_sem,cz]) rfl ⟨⟨0,0,0⟩,false,rfl,?_⟩
   exact ((hx1.setCell (p:=⟨w.heap.size,0,none⟩) (Nat.le_refl _) _).setCell (p:=⟨w.heap.size,1,none⟩) (Nat.le_refl _) _).setCell (p:=⟨w.heap.size,2,none⟩) (Nat.le_refl _) _
set_option maxHeartbeats 2000000
def RetFmt (s:Sys) (w:World) (e:Ending) (w':World):Prop:=∃ t:ByteArray,e=.returned (.string t)∧(zj s=false→t.size=0)∧Ext w w'
theorem valid_al {s:Sys}(h:zj s=true):∃ a:Nat,s.al=a∧a<64:=by
 simp only [zj,Bool.and_eq_true,decide_eq_true_eq] at h
 exact⟨s.al.toNat,by omega,by omega⟩
set_option maxRecDepth 100000 in
theorem zeD {lo hi:Nat} {A:Option Addr} {n c:Nat} {s:Sys} {w:World}(h:zQ w lo hi A n s)(hn:n≤1000000) :
  Calls Tryz.prog 172 #[.agg #[.int .i64 s.al,.int .i64 s.st,.slice A n c]] w (RetFmt s w):=by
 have HS:=hide (fun W (hW:Ext w W)=>h.ext hW)
 clear h
 cases h1:zj s
 ·have H1:=hide h1
  clear h1
  go_enter Tryz.func172,Tryz.ntmps172
  go_wp2_with (go_at_call 112;refine (zaf (HS.out _ ((Ext.refl _).alloc _))).mono ?_;rw [H1.out];rintro e w1 ⟨rfl,hx⟩)
  go_ret
  exact⟨_,rfl,fun _=>rfl,((Ext.refl _).alloc _).trans hx⟩
 ·obtain⟨p,hp,hp1,hp2,hf⟩:=zcE h1
  obtain⟨a,ha,ha2⟩:=valid_al h1
  have H1:=hide h1
  have Hf:=hide hf
  have Hp:=hide hp
  have Ha:=hide ha
  clear h1 hf hp ha
  go_enter Tryz.func172,Tryz.ntmps172
  go_wp2_with fail
  refine (zaf (HS.out _ ((Ext.refl _).alloc _))).mono ?_
  rw [H1.out]
  rintro e w1 ⟨rfl,hx⟩
  have b1:=zbu hx
  rw [Ha.out,Hp.out] at b1
  have hw1:=((Ext.refl w).alloc _).trans hx
  have cb:=b1.cells
  go_wp2_with fail
  refine tR (fun X=>Ext w1 X) [] (Ord.of [0,1,4,5,2,3,6,7,8]) ?_
  refine tQ ?_
  (refine zA rfl rfl rfl (fun K hK=>?_);go_simp)
  refine (zbj ha2).mono ?_
  rintro e w2 ⟨t2,rfl,ht2,hx2⟩
  have hx12:=((Ext.refl w1).drew).trans hx2
  have q1:¬ 9223372036854775807<t2.size+1:=by omega
  refine hK.out _ _ hx12 ?_
  refine pT ?_
  refine tQ ?_
  (refine zA rfl rfl rfl (fun K hK=>?_);go_simp)
  refine (zcO (n:=p) (by omega)).mono ?_
  rintro e w3 ⟨t3,rfl,ht3,hx3⟩
  have hx13:=hx12.trans hx3
  have q2:¬ 9223372036854775807<t2.size+1+t3.size:=by omega
  refine hK.out _ _ hx13 ?_
  refine pT ?_
  refine tQ ?_
  refine zag ?_
  obtain⟨t4,ht4⟩:∃ t4:ByteArray,t4=t2++{ data:=#[32] }++t3:=⟨_,rfl⟩
  have hs4:t4.size≤20:=by rw [ht4,ByteArray.size_append,ByteArray.size_append];show t2.size+1+t3.size≤20;omega
  rw [← ht4]
  clear ht4 q1 q2 ht2 ht3 hx2 hx3 hx12
  have hext0:=hx13
  go_wp2_with fail
  go_loopw [3,4] (fun v i wr=>∃ (k:Nat) (t:ByteArray),k≤n∧i=.int .i64 k∧v=.string t∧t.size≤20+20*k∧Ext w1 wr) (fun _ i _=>n - (intOf i).toNat)
  case atStart=>exact⟨0,t4,Nat.zero_le _,rfl,rfl,hs4,hext0⟩
  case round =>
   clear hext0 hx13 hs4
   obtain⟨k,t,hk,rfl,rfl,ht,hext⟩:=hrel
   have cb0:=cb wr hext
   by_cases hlt:k<n
   ·obtain⟨b,o,x,rfl,_,_,hx0,c0,c1,c2⟩:=(HS.out wr (hw1.trans hext)).2.edge hlt
    obtain⟨⟨f0,f1⟩,⟨g0,g1⟩,⟨t0,t1⟩⟩:=Hf.out x (List.mem_of_getElem? hx0.out)
    obtain⟨u,hue⟩:∃ u:Nat,x.fr=u:=⟨x.fr.toNat,by omega⟩
    obtain⟨v,hve⟩:∃ v:Nat,x.ta=v:=⟨x.ta.toNat,by omega⟩
    rw [hue] at c0 f0 f1
    rw [hve] at c2 t0 t1
    clear hue hve
    go_wp2_with fail
    have hxq:=(Ext.refl wr).alloc (.cells #[.int .i64 u,.int .i64 x.le,.int .i64 v] 126)
    have hbq:=Blk.new wr 126 #[.int .i64 u,.int .i64 x.le,.int .i64 v]
    generalize wr.alloc (.cells #[.int .i64 u,.int .i64 x.le,.int .i64 v] 126)=wq at *
    have cq:=hbq.cells
    have q0:¬ 9223372036854775807<t.size+1:=by omega
    refine tR (fun X=>Ext wq X) [] (Ord.of [0,1,2,3,6,7,10,11,4,5,8,9,12,13,14]) ?_
    refine tQ ?_
    (refine zA rfl rfl rfl (fun K hK=>?_);go_simp)
    refine (zcO (n:=u) (by omega)).mono ?_
    rintro e w2 ⟨t2,rfl,ht2,hx2⟩
    have hy2:=((Ext.refl wq).drew).trans hx2
    have q1:¬ 9223372036854775807<t.size+1+t2.size:=by omega
    refine hK.out _ _ hy2 ?_
    refine pT ?_
    refine tQ ?_
    (refine zA rfl rfl rfl (fun K hK=>?_);go_simp)
    refine (zfN (l:=x.le) g0 g1).mono ?_
    rintro e w3 ⟨t3,rfl,ht3,hx3⟩
    have hy3:=hy2.trans hx3
    have q2:¬ 9223372036854775807<t.size+1+t2.size+t3.size:=by omega
    refine hK.out _ _ hy3 ?_
    refine pT ?_
    refine tQ ?_
    (refine zA rfl rfl rfl (fun K hK=>?_);go_simp)
    refine (zcO (n:=v) (by omega)).mono ?_
    rintro e w5 ⟨t5,rfl,ht5,hx5⟩
    have hy5:=hy3.trans hx5
    have q3:¬ 9223372036854775807<t.size+1+t2.size+t3.size+t5.size:=by omega
    refine hK.out _ _ hy5 ?_
    refine pT ?_
    refine tQ ?_
    refine zag ?_
    have hs6:(t++{ data:=#[32] }++t2++t3++t5).size≤20+20*(k+1):=by
     simp only [ByteArray.size_append]
     show t.size+1+t2.size+t3.size+t5.size≤_
     omega
    clear q0 q1 q2 q3
    go_wp2_with fail
    go_roundw
    case rel=>exact⟨k+1,_,by omega,by go_num,rfl,hs6,(hext.trans hxq).trans hy5⟩
    case measure=>simp [intOf];omega
   ·obtain rfl:n=k:=by omega
    go_wp2_with fail
    go_ret
    have hv:=H1.out
    exact⟨t,rfl,fun h=>absurd (hv.symm.trans h) (by decide),hw1.trans hext⟩
set_option maxHeartbeats 2000000
def Good (s:Sys):Prop:=∃ a p:Nat,s.al=a∧a<64∧s.st=p∧1≤p∧p≤16∧Few p s.edges
def zbG (w:World) (R:Nat) (A:Option Addr) (n:Nat) (s:Sys):Prop:=
 n=s.edges.length∧n≤9223372036854775807∧(0<n→∃ (g o:Nat) (cs:Array Value),A=some ⟨g,o,none⟩∧R<g∧w.heap[g]?=some (.cells cs 126 (0,0))∧∀ j u,(zp s.edges)[j]?=some u→w.cell? ⟨g,o+j,none⟩=some u)
theorem zbG.at_ {w:World} {R n:Nat} {A:Option Addr} {s:Sys}(h:zbG w R A n s):zQ w (R+1) w.heap.size A n s:=by
 refine⟨h.1,by rw [zau,← h.1],h.2.1,fun h0=>?_⟩
 obtain⟨g,o,cs,e,hR,hh,hc⟩:=h.2.2 h0
 exact⟨⟨g,o,none⟩,e,hR,(Array.getElem?_eq_some_iff.1 hh).1,fun j u hu=>by rw [zO];exact hc j u hu⟩
theorem zbG.frm {S:Nat→Prop} {w w':World} {R n:Nat} {A:Option Addr} {s:Sys}(h:zbG w R A n s)(hb:Frm S w w')(hS:∀ k,S k→R<k→∀ cs,w.heap[k]?≠some (.cells cs 126 (0,0))):zbG w' R A n s:=by
 refine⟨h.1,h.2.1,fun h0=>?_⟩
 obtain⟨g,o,cs,e,hR,hh,hc⟩:=h.2.2 h0
 have hlt:=(Array.getElem?_eq_some_iff.1 hh).1
 have hn:¬ S g:=fun hs=>hS g hs hR cs hh
 exact⟨g,o,cs,e,hR,(hb.block g hlt hn).trans hh,fun j u hu=>(World.cell?_of_block (w:=w) (hb.block g hlt hn)).trans (hc j u hu)⟩
theorem zbG.ext {w w':World} {R n:Nat} {A:Option Addr} {s:Sys}(h:zbG w R A n s)(hb:Ext w w'):zbG w' R A n s:=h.frm (S:=fun _=>False) hb (fun _ hk=>hk.elim)
theorem zbG.dr {w w':World} {R n:Nat} {A:Option Addr} {s:Sys}(h:zbG w R A n s)(hb:Dr R w w'):zbG w' R A n s:=h.frm hb (fun k hk hR=>by omega)
theorem zbG.far {w w':World} {R n Z:Nat} {A:Option Addr} {s:Sys} {cs:Array Value} {t:TypeId}(h:zbG w R A n s)(hB:Blk w Z t cs)(ht:t≠126)(hb:Frm (fun k=>k=Z) w w'):zbG w' R A n s:=h.frm hb (fun k hk _ cs' hh=>by
 subst hk
 unfold Blk at hB
 rw [hB] at hh
 injection hh with hh
 injection hh with _ h2
 exact ht h2)
theorem zbG.own {w:World} {R base n c:Nat} {A:Option Addr} {s:Sys}(h:w.ownsRow base 126 3 (.slice A n c) n (zp s.edges))(hR:R<base):zbG w R A n s:=by
 have hl:n=s.edges.length:=by have:=h.1;rw [zau] at this;omega
 refine⟨hl,(Reads.of_own h).len,fun h0=>?_⟩
 rcases h.2 with ⟨_,h1⟩|⟨g,cap,cur,hv,hb,hh,_⟩
 ·omega
 ·have hA:A=some ⟨g,0,none⟩:=by injection hv
  subst hA
  exact⟨g,0,cur,rfl,by omega,hh,fun j u hu=>by
   have:=h.cells (g:=g) rfl j u hu
   rwa [zO] at this⟩
theorem zgJ {w:World} {base:Nat} {e:TypeId} {size n c:Nat} {A:Option Addr} {xs:List Value}(h:w.ownsRow base e size (.slice A n c) n xs):n≤c:=by
 rcases h.2 with ⟨hv,h0⟩|⟨g,cap,cur,hv,_,_,hnc,_⟩
 ·omega
 ·injection hv with _ _ h3
  omega
def RetG (R M L:Nat) (w:World) (e:Ending) (w':World):Prop:=
 ∃ (s:Sys) (A:Option Addr) (n c:Nat),e=.returned (.agg #[.int .i64 s.al,.int .i64 s.st,.slice A n c])∧zbG w' R A n s∧Good s∧(n≤L∧n≤c)∧Rd w' R M∧Dr R w w'
def RetA (R M L:Nat) (w:World) (e:Ending) (w':World):Prop:=
 ∃ (s:Sys) (A:Option Addr) (n c:Nat),e=.returned (.agg #[.int .i64 s.al,.int .i64 s.st,.slice A n c])∧zbG w' R A n s∧(n≤L∧n≤c)∧Rd w' R M∧Dr R w w'
structure Acc (w0 wB W:World) (R G M:Nat) (al st:Int) (v:Value) (es:List Edg):Prop where
 blk:Blk W G 39 #[.int .i64 al,.int .i64 st,v]
 own:W.ownsRow wB.heap.size 126 3 v es.length (zp es)
 rd:Rd W R M
 dr:Dr R w0 W
 fr:Frm (fun k=>k=R∨k=G) wB W
 hR:R<w0.heap.size
 hB:w0.heap.size≤wB.heap.size
 hG:w0.heap.size≤G
section
variable {w0 wB W W':World} {R G M N:Nat} {al st:Int} {v:Value} {es:List Edg}
theorem Acc.more (h:Acc w0 wB W R G M al st v es)(hM:M≤N):Acc w0 wB W R G N al st v es:={ h with rd:=h.rd.more hM }
theorem Acc.ext (h:Acc w0 wB W R G M al st v es)(hb:Ext W W'):Acc w0 wB W' R G M al st v es:=⟨h.blk.ext hb,zf h.own hb,h.rd.ext hb,h.dr.ext hb,h.fr.ext hb,h.hR,h.hB,h.hG⟩
theorem Acc.drawn (h:Acc w0 wB W R G M al st v es)(hb:Dr R W W')(hr:Rd W' R N):Acc w0 wB W' R G N al st v es:=
 ⟨h.blk.dr hb (by have:=h.hR;have:=h.hG;omega),ze h.own hb (fun b hv hS=>by have:=(h.own.lt b hv).1;have:=h.hR;have:=h.hB;omega),hr,h.dr.trans hb,h.fr.trans (hb.mono fun k _ hk=>Or.inl hk),h.hR,h.hB,h.hG⟩
theorem Acc.far (h:Acc w0 wB W R G M al st v es) {b:Nat}(hv:v.ownBlock=some b):b≠G:=by
 rintro rfl
 have hB:=h.blk
 rcases h.own.2 with ⟨rfl,_⟩|⟨g,cap,cur,rfl,_,hh,_⟩
 ·simp [Value.ownBlock] at hv
 ·have hg:g=b:=by simpa [Value.ownBlock] using hv
  subst hg
  unfold Blk at hB
  rw [hh] at hB
  injection hB with hB
  injection hB with _ ht
  exact absurd ht (by decide)
theorem Acc.setAl (h:Acc w0 wB W R G M al st v es) (x:Int):Acc w0 wB (W.setCell ⟨G,0,none⟩ (.int .i64 x)) R G M x st v es:=
 ⟨by simpa using h.blk.set_ 0 _,ze h.own (Frm.setCell W G 0 _) (fun b hv hS=>h.far hv hS),h.rd.frm (Frm.setCell W G 0 _) (fun k hk hS=>by have:=h.hR;have:=h.hG;omega),h.dr.setNew h.hG _,h.fr.cell (Or.inr rfl) _,h.hR,h.hB,h.hG⟩
theorem Acc.setSt (h:Acc w0 wB W R G M al st v es) (x:Int):Acc w0 wB (W.setCell ⟨G,1,none⟩ (.int .i64 x)) R G M al x v es:=
 ⟨by simpa using h.blk.set_ 1 _,ze h.own (Frm.setCell W G 1 _) (fun b hv hS=>h.far hv hS),h.rd.frm (Frm.setCell W G 1 _) (fun k hk hS=>by have:=h.hR;have:=h.hG;omega),h.dr.setNew h.hG _,h.fr.cell (Or.inr rfl) _,h.hR,h.hB,h.hG⟩
theorem Acc.push {g cap:Nat} {e:Edg}(h:Acc w0 wB W R G M al st v es)(hown:W'.ownsRow wB.heap.size 126 3 (.slice (some ⟨g,0,none⟩) (es.length+1) cap) (es.length+1) (zp es++[.int .i64 e.fr,.int .i64 e.le,.int .i64 e.ta]))
  (hg:W.grownBy W' v.ownBlock) (hat:v.ownBlock=some g∨g=W.heap.size+1) :
  Hid (W'.cell? ⟨G,2,none⟩=some v)∧W'.frozen? ⟨G,2,none⟩=false∧Acc w0 wB (W'.setCell ⟨G,2,none⟩ (.slice (some ⟨g,0,none⟩) (es.length+1) cap)) R G M al st (.slice (some ⟨g,0,none⟩) (es.length+1) cap) (es++[e]):=by
 have hB:Blk W' G 39 #[.int .i64 al,.int .i64 st,v]:=(hg.block G h.blk.lt (fun e=>h.far e.symm rfl)).trans h.blk
 have hgG:g≠G:=by
  rcases hat with h1|h1
  ·exact h.far h1
  ·have:=h.blk.lt;omega
 have hd:Dr R w0 W':=h.dr.grown hg (fun k hk=>Nat.le_trans h.hB (h.own.lt k hk).1)
 have hr:Rd W' R M:=h.rd.frm (Frm.of_grown hg) (fun k hk hS=>by have:=(h.own.lt k hS).1;have:=h.hR;have:=h.hB;omega)
 have hf:Frm (fun k=>k=R∨k=G) wB W':=
  ⟨hg.os.trans h.fr.os,hg.tape.trans h.fr.tape,hg.output.trans h.fr.output,Nat.le_trans h.fr.size hg.size,
   fun k hk hn=>(hg.block k (Nat.lt_of_lt_of_le hk h.fr.size) (fun e=>by have:=(h.own.lt k e.symm).1;omega)).trans (h.fr.block k hk hn)⟩
 refine⟨hB.cell 2,hB.frozen 2,⟨by simpa using hB.set_ 2 _,?_,hr.frm (Frm.setCell W' G 2 _) (fun k hk hS=>by have:=h.hR;have:=h.hG;omega),hd.setNew h.hG _,hf.cell (Or.inr rfl) _,h.hR,h.hB,h.hG⟩⟩
 have:=ze hown (Frm.setCell W' G 2 (.slice (some ⟨g,0,none⟩) (es.length+1) cap)) (fun b hv hS=>by
  have:g=b:=by simpa [Value.ownBlock] using hv
  omega)
 rw [zbJ]
 simpa [zp] using this
theorem Acc.reads {A:Option Addr} {n c:Nat}(h:Acc w0 wB W R G M al st (.slice A n c) es):n=es.length∧zQ W wB.heap.size W.heap.size A n ⟨al,st,es⟩:=by
 have hn:n=es.length:=by
  rcases h.own.2 with ⟨hv,h0⟩|⟨g,cap,cur,hv,_⟩
  ·injection hv with _ h2 _;omega
  ·injection hv
 have ho:=h.own
 rw [← hn] at ho
 exact⟨hn,hn,Reads.of_own ho⟩
theorem Acc.form (h:Acc w0 wB W R G M al st v es):∃ A n c,v=.slice A n c:=by
 obtain⟨A,c,e⟩:=zh h.own
 exact⟨A,_,c,e⟩
theorem Acc.old (h:Acc w0 wB W R G M al st v es) {lo hi size n:Nat} {A:Option Addr} {xs:List Value}(hx:Reads wB lo hi size A n xs)(h1:∀ k,lo≤k→k<hi→k≠R∧k≠G):Reads W lo hi size A n xs:=
 hx.frm h.fr (fun k a b hS=>by have:=h1 k a b;omega)
end
theorem zbQ (W:World) (Z:Nat) (u0 u1 u2:Value):Frm (fun k=>k=Z) W (((W.setCell ⟨Z,0,none⟩ u0).setCell ⟨Z,1,none⟩ u1).setCell ⟨Z,2,none⟩ u2):=
 ((Frm.setCell W Z 0 u0).trans (Frm.setCell _ Z 1 u1)).trans (Frm.setCell _ Z 2 u2)
theorem Acc.fin {w0 wB W:World} {R G M Z:Nat} {al st:Int} {A:Option Addr} {n c:Nat} {es:List Edg}(h:Acc w0 wB W R G M al st (.slice A n c) es)(hZ:w0.heap.size≤Z)(hZ2:Z<wB.heap.size) (u0 u1 u2:Value) :
  zbG (((W.setCell ⟨Z,0,none⟩ u0).setCell ⟨Z,1,none⟩ u1).setCell ⟨Z,2,none⟩ u2) R A n ⟨al,st,es⟩ ∧
  Rd (((W.setCell ⟨Z,0,none⟩ u0).setCell ⟨Z,1,none⟩ u1).setCell ⟨Z,2,none⟩ u2) R M∧Dr R w0 (((W.setCell ⟨Z,0,none⟩ u0).setCell ⟨Z,1,none⟩ u1).setCell ⟨Z,2,none⟩ u2):=by
 have hf:=zbQ W Z u0 u1 u2
 obtain⟨hn,_⟩:=h.reads
 have hR:=h.hR
 have hB:=h.hB
 have ho:=h.own
 rw [← hn] at ho
 refine⟨zbG.own (s:=⟨al,st,es⟩) (ze ho hf (fun b hv hS=>by have:=(h.own.lt b hv).1;omega)) (by omega),h.rd.frm hf (fun k h1 h2=>by omega),?_⟩
 exact ((h.dr.setNew (p:=⟨Z,0,none⟩) hZ u0).setNew (p:=⟨Z,1,none⟩) hZ u1).setNew (p:=⟨Z,2,none⟩) hZ u2
set_option maxHeartbeats 2000000
theorem zfg {p:Nat} {es:List Edg} {e:Edg}(h:Few p es)(he:(0≤e.fr∧e.fr<p)∧(0≤e.le∧e.le<6)∧(0≤e.ta∧e.ta<p)):Few p (es++[e]):=fun x hx=>by
 rcases List.mem_append.1 hx with h1|h1
 ·exact h x h1
 ·rw [List.mem_singleton.1 h1];exact he
theorem few_nil (p:Nat):Few p []:=fun x hx=>by cases hx
set_option maxRecDepth 100000 in
theorem zgT {R M a p:Nat} {few:Int} {w:World}(h:Rd w R M)(hM:M≤900000000)(ha:a<64)(hp1:1≤p)(hp:p≤16) :
  Calls Tryz.prog 121 #[.pointer (some ⟨R,0,none⟩),.int .i64 a,.int .i64 p,.int .i64 few] w (RetG R (M+20000) 20000 w):=by
 have hsm:Sm a:=by unfold Sm;omega
 have hRl:=h.lt
 go_enter Tryz.func121,Tryz.ntmps121
 go_wp2_with fail
 refine (zS a hsm _).mono ?_
 rintro e w1 ⟨B,d,rfl,hown1,hx1⟩
 obtain⟨bz,bG⟩:=zR hx1
 have hw1:=(((Ext.refl w).alloc _).alloc _).trans hx1
 have hl6:=zy a 6
 have hlm:=hide (fun k (hk:k∈letters a 6)=>(zcJ.1 hk).1)
 have hrd1:=(Reads.of_own hown1).more (lo':=w.heap.size+2) (hi':=w1.heap.size) (by simp) (Nat.le_refl _)
 have hacc:Acc w w1 w1 R (w.heap.size+1) M a p (.slice none 0 0) []:=⟨bG,World.ownsRow_nil _ _ _ _,h.ext hw1,hw1.dr,Frm.refl _ _,hRl,hw1.size,by omega⟩
 have bz1:Blk w1 w.heap.size 39 #[.int .i64 0,.int .i64 0,.slice none 0 0]:=bz
 clear hown1 bG hx1 bz
 generalize letters a 6=ls at *
 have hz1:=hw1.size
 go_wp2_with fail
 go_loopw [11] (fun i wr=>∃ k:Nat,k≤p∧i=.int .i64 k∧∃ (v:Value) (es:List Edg),Acc w w1 wr R (w.heap.size+1) (M+k*1000) a p v es∧es.length≤k*1000∧Hid (Few p es)) (fun i _=>p - (intOf i).toNat)
 case atStart=>exact⟨0,Nat.zero_le _,rfl,_,[],hacc.more (Nat.le_add_right _ _),Nat.zero_le _,few_nil p⟩
 case round =>
  clear hacc
  obtain⟨k,hk,rfl,v,es,hacc,hel,hfew⟩:=hrel
  by_cases hlt:k<p
  ·go_wp2_with fail
   go_loopw [12] (fun i wr=>∃ j:Nat,j≤ls.length∧i=.int .i64 j∧∃ (v:Value) (es:List Edg),Acc w w1 wr R (w.heap.size+1) (M+k*1000+j*100) a p v es∧es.length≤k*1000+j*100∧Hid (Few p es)) (fun i _=>ls.length - (intOf i).toNat)
   case atStart=>exact⟨0,Nat.zero_le _,rfl,v,es,hacc.more (Nat.le_add_right _ _),Nat.le_trans hel (Nat.le_add_right _ _),hfew⟩
   case round =>
    clear hacc hel hfew
    obtain⟨j,hj,rfl,v,es,hacc,hel,hfew⟩:=hrel
    by_cases hlj:j<ls.length
    ·go_wp2_with fail
     go_loopw [13] (fun i wr=>∃ x:Nat,x≤p∧i=.int .i64 x∧∃ (v:Value) (es:List Edg),Acc w w1 wr R (w.heap.size+1) (M+k*1000+j*100+x) a p v es∧es.length≤k*1000+j*100+x∧Hid (Few p es)) (fun i _=>p - (intOf i).toNat)
     case atStart=>exact⟨0,Nat.zero_le _,rfl,v,es,hacc.more (Nat.le_add_right _ _),Nat.le_trans hel (Nat.le_add_right _ _),hfew⟩
     case round =>
      clear hacc hel hfew
      obtain⟨x,hx,rfl,v,es,hacc,hel,hfew⟩:=hrel
      by_cases hlx:x<p
      ·go_wp2_with fail
       refine (zu hacc.rd (by omega)).mono ?_
       rintro e w2 ⟨y,rfl,_,_,hr2,hd2⟩
       have hacc2:=hacc.drawn hd2 hr2
       obtain⟨ad,l,rfl,_,hadhi,hl,hlc⟩:=(hacc2.old hrd1 (by omega)).nat hlj
       have hl6':=hlm.out l (List.mem_of_getElem? hl.out)
       by_cases hy:y=0
       ·subst hy
        have cG:∀ W,Ext w2 W→∀ q,W.cell? ⟨w.heap.size+1,q,none⟩=#[Value.int .i64 a,.int .i64 p,v][q]?:=fun W hW=>(hacc2.blk.ext hW).cell
        have cL:∀ W,Ext w2 W→W.cell? (ad.add j)=some (.int .i64 (l:Nat)):=fun W hW=>hW.cell_some hlc
        have hj0:(0:Int)≤(j:Int):=by omega
        have hj1:(j:Int)<(ls.length:Int):=by omega
        go_wp2_with fail
        refine tR (fun X=>Ext w2 X) [10,12] (Ord.of [0,1,2,3,4,5,6,7,8,9,10,11,12]) ?_
        refine tQ ?_
        (refine zA rfl rfl rfl (fun K hK=>?_);go_simp)
        refine hK.out _ _ ((Ext.refl _).drew.alloc _) ?_
        refine pT ?_
        (refine zN rfl rfl rfl rfl (fun K hK=>?_))
        refine zaG w1 w2.drew _ _ _ rfl 126 _ 3 24 Tryz.underlying37 zaQ rfl (by decide) v es.length (zp es) _ _ rfl rfl hacc2.fr.size hacc2.own rfl (by simp [Value.oneCell']) (by unfold maxLen;omega) (by omega) ?_
        intro g cap w3 hown3 hg3 hat3 hlt3
        refine hK.out _ _ ?_
        refine pT ?_
        refine tQ ?_
        obtain⟨h1,h2,h3⟩:=(hacc2.ext ((Ext.refl _).drew)).push (e:=⟨k,l,x⟩) (W':=w3) hown3 hg3 hat3
        have h1':=h1.out
        (refine zN rfl rfl rfl rfl (fun K hK=>?_))
        go_simp
        refine hK.out _ _ ?_
        refine zag ?_
        go_wp2_with fail
        go_roundw
        case rel=>exact⟨x+1,by omega,by go_num,_,_,h3.more (by omega),by simp;omega,zfg hfew.out (by simp;omega)⟩
        case measure=>simp [intOf];omega
       ·have hy':((y:Int)==0)=false:=by simp;omega
        go_wp2_with fail
        go_roundw
        case rel=>exact⟨x+1,by omega,by go_num,v,es,hacc2.more (by omega),by omega,hfew⟩
        case measure=>simp [intOf];omega
      ·obtain rfl:p=x:=by omega
       have e1:es.length≤k*1000+(j+1)*100:=by omega
       have e2:M+k*1000+j*100+p≤M+k*1000+(j+1)*100:=by omega
       go_wp2_with fail
       go_roundw
       case rel=>exact⟨j+1,by omega,by go_num,v,es,hacc.more e2,e1,hfew⟩
       case measure=>simp [intOf];omega
    ·obtain rfl:j=ls.length:=by omega
     have e1:es.length≤(k+1)*1000:=by omega
     have e2:M+k*1000+ls.length*100≤M+(k+1)*1000:=by omega
     go_wp2_with fail
     go_roundw
     case rel=>exact⟨k+1,by omega,by go_num,v,es,hacc.more e2,e1,hfew⟩
     case measure=>simp [intOf];omega
  ·obtain rfl:p=k:=by omega
   obtain⟨A,n,c,rfl⟩:=hacc.form
   obtain⟨rfl,_⟩:=hacc.reads
   have hcap:=zgJ hacc.own
   have cG:=hacc.blk.cell
   have bz2:=bz1.frm hacc.fr (by omega)
   have cz:=bz2.cell
   have hzz:=bz1.lt
   have fz:=bz2.frozen
   obtain⟨f1,f2,f3⟩:=hacc.fin (Z:=w.heap.size) (Nat.le_refl _) (by omega) (.int .i64 a) (.int .i64 p) (.slice A es.length c)
   have Hfin:=hide (show RetG R (M+20000) 20000 w (.returned (.agg #[.int .i64 a,.int .i64 p,.slice A es.length c])) _ from ⟨⟨a,p,es⟩,A,es.length,c,rfl,f1,⟨a,p,rfl,ha,rfl,hp1,hp,hfew.out⟩,by omega,f2.more (by omega),f3⟩)
   clear bz1 hrd1 hlm f1 f2 f3
   go_wp2_with fail
   exact bodyPost_ret (v:=.agg #[.int .i64 a,.int .i64 p,.slice A es.length c]) (by simp [results,Tryz.results121,go_sem,cz]) rfl Hfin.out
set_option maxHeartbeats 4000000
theorem zdj {P:Program} (wb w:World) {ops:Array Oper} {rest:List Oper} {o:Oper} {a:Act} {Q:Exit→Act→World→Prop}(hgd:o.guard=none) (s x:Operand) (t:TypeId)
  (ho:o.op=.call { callee:=.builtin .append,args:=#[s,x],argTypes:=#[t,t] })
  (e:TypeId) (z:Value) (size bytes:Nat) (ht:P.underlying t=some (.slice e)) (hi:(P.info? e).map (fun i=>(i.zero,i.size,i.bytes))=some (some z,size,bytes)) (hzs:z.cells.size=size) (hsz:0<size)
  (v:Value) (n:Nat) (xs:List Value) (us:Array Value) (e':TypeId) (hs:a.eval s=v) (hx:a.eval x=.slice (some ⟨w.heap.size,0,none⟩) 1 1)
  (hext:wb.heap.size≤w.heap.size) (hown:w.ownsRow wb.heap.size e size v n xs) (hus:us.size=size) (h1:∀ u∈us.toList,u.oneCell'=true)
  (h63:n+1≤maxLen) (hbytes:(n+1)*bytes≤140737488355328)
  (h:∀ g cap w',w'.ownsRow wb.heap.size e size (.slice (some ⟨g,0,none⟩) (n+1) cap) (n+1) (xs++us.toList)→w.grownBy w' v.ownBlock→(v.ownBlock=some g∨g=w.heap.size+1)→g<w'.heap.size→wpList P ops Q rest (a.put o.dst (.slice (some ⟨g,0,none⟩) (n+1) cap)) w') :
  wpList P ops Q (o :: rest) a (w.alloc (.cells us e')):=
 wpList_plain hgd fun _ hK=>zaG wb w s x t ho e z size bytes ht hi hzs hsz v n xs us e' hs hx hext hown hus h1 h63 hbytes fun g cap w' h2 h3 h4 h5=>hK _ _ (h g cap w' h2 h3 h4 h5)
theorem Reads.str {w:World} {lo hi n k:Nat} {A:Option Addr} {l:List ByteArray}(h:Reads w lo hi 1 A n (strs l))(hk:k<n):∃ ad x,A=some ad∧lo≤ad.block∧ad.block<hi∧Hid (l[k]?=some x)∧w.cell? (ad.add k)=some (.string x):=by
 obtain⟨ad,u,e,h1,h2,hu,hc⟩:=h.one hk
 have:=hu.out
 simp only [strs,List.getElem?_map,Option.map_eq_some_iff] at this
 obtain⟨x,hx,rfl⟩:=this
 exact⟨ad,x,e,h1,h2,hx,hc⟩
theorem valid_good {s:Sys}(h:zj s=true):Good s:=by
 obtain⟨p,hp,hp1,hp2,hf⟩:=zcE h
 obtain⟨a,ha,ha2⟩:=valid_al h
 exact⟨a,p,ha,ha2,hp,hp1,hp2,hf⟩
theorem Acc.fillRD {w0 wB W:World} {R G M Z:Nat} {al st:Int} {v:Value} {es:List Edg}(h:Acc w0 wB W R G M al st v es)(hZ:w0.heap.size≤Z) (u0 u1 u2:Value) :
  Rd (((W.setCell ⟨Z,0,none⟩ u0).setCell ⟨Z,1,none⟩ u1).setCell ⟨Z,2,none⟩ u2) R M∧Dr R w0 (((W.setCell ⟨Z,0,none⟩ u0).setCell ⟨Z,1,none⟩ u1).setCell ⟨Z,2,none⟩ u2):=
 ⟨h.rd.frm (zbQ W Z u0 u1 u2) (fun k h1 h2=>by have:=h.hR;omega),((h.dr.setNew (p:=⟨Z,0,none⟩) hZ u0).setNew (p:=⟨Z,1,none⟩) hZ u1).setNew (p:=⟨Z,2,none⟩) hZ u2⟩
theorem str_empty {t x:ByteArray}(h:t.toList=x.toList)(h0:t.size=0):x.size=0:=by
 have h1:=congrArg List.length h
 rw [ByteArray.toList_eq,ByteArray.toList_eq] at h1
 have e1:t.data.toList.length=t.size:=rfl
 have e2:x.data.toList.length=x.size:=rfl
 omega
def Fair (s:Sys):Prop:=∃ a p:Nat,s.al=a∧a<64∧s.st=p∧p≤16∧Few (p+1) s.edges
theorem Good.fair {s:Sys}(h:Good s):Fair s:=by
 obtain⟨a,p,h1,h2,h3,_,h5,h6⟩:=h
 exact⟨a,p,h1,h2,h3,h5,fun e he=>by have:=h6 e he;omega⟩
theorem fair_zero:Fair ⟨0,0,[]⟩:=⟨0,0,rfl,by omega,rfl,by omega,fun e he=>by cases he⟩
def zgx (R M L:Nat) (w:World) (e:Ending) (w':World):Prop:=
 ∃ (s:Sys) (A:Option Addr) (n c:Nat) (ok:Bool),e=.returned (.tuple #[.agg #[.int .i64 s.al,.int .i64 s.st,.slice A n c],.bool ok])∧zbG w' R A n s∧((ok=true→Good s)∧Fair s)∧(n≤L∧n≤c)∧Rd w' R M∧Dr R w w'
theorem zfn {R M L:Nat} {w w':World}(h:Rd w' R M)(hd:Dr R w w'):zgx R M L w (.returned (.tuple #[.agg #[.int .i64 0,.int .i64 0,.slice none 0 0],.bool false])) w':=
 ⟨⟨0,0,[]⟩,none,0,0,false,rfl,⟨rfl,by omega,fun h0=>by omega⟩,⟨(fun h=>by cases h),fair_zero⟩,⟨Nat.zero_le _,Nat.le_refl _⟩,h,hd⟩
theorem yH08a1 {P:Prop}(h:P:=by
 obtain⟨g1,g2⟩:=hacc4.fillRD (Z:=w.heap.size) (Nat.le_refl _) (.int .i64 0) (.int .i64 0) (.slice none 0 0)
 exact bodyPost_ret (v:=.tuple #[.agg #[.int .i64 0,.int .i64 0,.slice none 0 0],.bool false]) (by simp [results,Tryz.results107,go_sem,hz4]) rfl (zfn g1 g2)
 ):P:=h
theorem yH08a3 {P:Prop}(h:P:=by
 go_wp2_with fail
 exact bodyPost_ret (v:=.tuple #[.agg #[.int .i64 0,.int .i64 0,.slice none 0 0],.bool false]) (by simp [results,Tryz.results107,go_sem,cz2]) rfl Hnone.out
 ):P:=h
set_option maxRecDepth 100000 in
theorem zeX {R M:Nat} {x:ByteArray} {w:World}(h:Rd w R M)(hx:x.size≤1000) :
  Calls Tryz.prog 107 #[.string x] w (zgx R M 1001 w):=by
 have hRl:=h.lt
 go_enter Tryz.func107,Tryz.ntmps107
 go_wp2_with fail
 refine (spec_l19Cut (s:=x) (by omega)).mono ?_
 rintro e w1 ⟨B,m,d,l,rfl,hml,hown1,hlx,hm,hx1⟩
 have bz1:=zbu hx1
 have hzz:=bz1.lt
 have hw1:=((Ext.refl w).alloc _).trans hx1
 have hrd:=(Reads.of_own hown1).more (lo':=w.heap.size+1) (hi':=w1.heap.size) (by simp) (Nat.le_refl _)
 have Hlx:=hide hlx
 have Hml:=hide hml
 clear hown1 hlx hml hx1
 have cz:=bz1.cell
 have fz:=bz1.frozen
 have hfill:=hide (fun (W:World) (hW:Ext w1 W) (u0 u1 u2:Value)=>(⟨(h.ext (hw1.trans hW)).frm (zbQ W w.heap.size u0 u1 u2) (fun k hk hS=>by omega),(((hw1.trans hW).dr.setNew (R:=R) (p:=⟨w.heap.size,0,none⟩) (Nat.le_refl _) u0).setNew (p:=⟨w.heap.size,1,none⟩) (Nat.le_refl _) u1).setNew (p:=⟨w.heap.size,2,none⟩) (Nat.le_refl _) u2⟩:Rd (((W.setCell ⟨w.heap.size,0,none⟩ u0).setCell ⟨w.heap.size,1,none⟩ u1).setCell ⟨w.heap.size,2,none⟩ u2) R M∧Dr R w (((W.setCell ⟨w.heap.size,0,none⟩ u0).setCell ⟨w.heap.size,1,none⟩ u1).setCell ⟨w.heap.size,2,none⟩ u2)))
 by_cases hm2:m<2
 ·go_wp2_with fail
  obtain⟨g1,g2⟩:=hfill.out w1 (Ext.refl _) (.int .i64 0) (.int .i64 0) (.slice none 0 0)
  exact bodyPost_ret (v:=.tuple #[.agg #[.int .i64 0,.int .i64 0,.slice none 0 0],.bool false]) (by simp [results,Tryz.results107,go_sem,cz]) rfl (zfn g1 g2)
 ·obtain⟨ad,x0,rfl,hlo,hhi,hx0,hc0⟩:=hrd.str (k:=0) (by omega)
  obtain⟨b,o,rfl⟩:∃ b o,ad=⟨b,o,none⟩:=⟨_,_,zcq hc0⟩
  rw [zO,Nat.add_zero] at hc0
  obtain⟨ad',x1,hae,_,_,hx1,hc1⟩:=hrd.str (k:=1) (by omega)
  obtain rfl:=Option.some.inj hae
  rw [zO] at hc1
  have hm2':(2:Int)≤(m:Int):=by omega
  have hb1:=hide (Hlx.out x1 (List.mem_of_getElem? hx1.out))
  go_wp2_with fail
  refine (zck (x:=x0)).mono ?_
  rintro e w2 ⟨a,ok1,rfl,ha,hx2⟩
  have hc12:=hx2.cell_some hc1
  have bz2:=bz1.ext hx2
  have cz2:=bz2.cell
  have fz2:=bz2.frozen
  go_wp2_with fail
  refine (zcP (s:=x1) (by have:=hb1.out;omega)).mono ?_
  rintro e w2' ⟨st,ok2,rfl,rfl⟩
  obtain⟨g1,g2⟩:=hfill.out w2 hx2 (.int .i64 0) (.int .i64 0) (.slice none 0 0)
  have Hnone:=hide (zfn (L:=1001) g1 g2)
  clear g1 g2
  cases ok1
  ·exact yH08a3
  ·cases ok2
   ·exact yH08a3
   ·have bG:=Blk.new w2 39 #[.int .i64 a,.int .i64 st,.slice none 0 0]
    have hx3:=(Ext.refl w2).alloc (.cells #[.int .i64 a,.int .i64 st,.slice none 0 0] 39)
    have hz3:w2.heap.size<(w2.alloc (.cells #[.int .i64 a,.int .i64 st,.slice none 0 0] 39)).heap.size:=by simp
    have hz12:=hx2.size
    have hz01:=hw1.size
    have hw2:=hw1.trans hx2
    clear hc0 hc1 hc12 cz fz cz2 fz2
    go_wp2_with fail
    generalize w2.alloc (.cells #[.int .i64 a,.int .i64 st,.slice none 0 0] 39)=w3 at *
    have hw3:=hw2.trans hx3
    have hrd3:=(hrd.ext hx2).ext hx3
    have bz3:=bz2.ext hx3
    have hacc:Acc w w3 w3 R w2.heap.size M a st (.slice none 0 0) []:=⟨bG,World.ownsRow_nil _ _ _ _,h.ext hw3,hw3.dr,Frm.refl _ _,hRl,hw3.size,by omega⟩
    go_loopw [10] (fun i wr=>∃ (k:Nat) (v:Value) (es:List Edg),2≤k∧k≤m∧i=.int .i64 k∧Acc w w3 wr R w2.heap.size M a st v es∧es.length≤k) (fun i _=>m - (intOf i).toNat)
    case atStart=>exact⟨2,_,[],Nat.le_refl _,by omega,rfl,hacc,Nat.zero_le _⟩
    case round =>
     clear hacc
     obtain⟨k,v,es,hk2,hk,rfl,hacc,hel⟩:=hrel
     have hG:=hacc.blk.cell
     have hbz:=bz3.frm hacc.fr (by omega)
     have hbzc:=hbz.cell
     have hbzf:=hbz.frozen
     have hrdk:=hacc.old hrd3 (by omega)
     by_cases hlt:k<m
     ·obtain⟨ad,xk,hae,_,_,hxk,hck⟩:=hrdk.str hlt
      obtain rfl:=Option.some.inj hae
      rw [zO] at hck
      have hbk:=hide (Hlx.out xk (List.mem_of_getElem? hxk.out))
      clear hbzc hbzf
      go_wp2_with fail
      refine (spec_l2Parse (s:=xk) (by have:=hbk.out;omega)).mono ?_
      rintro e w4 ⟨ed,ok3,rfl,hx4⟩
      have hacc4:=hacc.ext (hx4.alloc (.cells #[.int .i64 ed.fr,.int .i64 ed.le,.int .i64 ed.ta] 126))
      have bed:=Blk.new w4 126 #[.int .i64 ed.fr,.int .i64 ed.le,.int .i64 ed.ta]
      have hbz4:=hbz.ext (hx4.alloc (.cells #[.int .i64 ed.fr,.int .i64 ed.le,.int .i64 ed.ta] 126))
      clear hG
      cases ok3
      ·have hz4:=hbz4.cell
       have hzf:=hbz4.frozen
       go_wp2_with fail
       generalize w4.alloc (.cells #[.int .i64 ed.fr,.int .i64 ed.le,.int .i64 ed.ta] 126)=wq at *
       exact yH08a1
      ·have hG4:=hacc4.blk.cell
       go_wp2_with (at_builtin;refine zdj w3 (w4.alloc (.cells #[.int .i64 ed.fr,.int .i64 ed.le,.int .i64 ed.ta] 126)) rfl _ _ _ rfl 126 _ 3 24 Tryz.underlying37 zaQ rfl (by decide) v es.length (zp es) _ _ rfl (by first|rfl|simp [go_sem]) hacc4.fr.size hacc4.own rfl (by simp [Value.oneCell']) (by unfold maxLen;omega) (by omega) ?_;intro g cap w5 hown5 hg5 hat5 hlt5;obtain⟨h1,h2,h3⟩:=hacc4.push (e:=ed) (W':=w5) hown5 hg5 hat5;have h1':=h1.out)
       go_roundw
       case rel=>exact⟨k+1,_,_,by omega,by omega,by go_num,h3,by simp;omega⟩
       case measure=>simp [intOf];omega
     ·obtain rfl:m=k:=by omega
      obtain⟨A,n,c,rfl⟩:=hacc.form
      obtain⟨rfl,hsys⟩:=hacc.reads
      clear hbzc hbzf
      go_wp2_with fail
      refine (zeD (s:=⟨a,st,es⟩) hsys (by omega)).mono ?_
      rintro e w4 ⟨tx,rfl,htx,hx4⟩
      have hacc4:=hacc.ext hx4
      have hbz4:=hbz.ext hx4
      have hz4:=hbz4.cell
      have hzf:=hbz4.frozen
      have hG4:=hacc4.blk.cell
      cases hne:tx.toList==x.toList
      ·go_wp2_with fail
       exact yH08a1
      ·have hval:zj (⟨a,st,es⟩:Sys)=true:=by
        cases hv:zj (⟨a,st,es⟩:Sys)
        ·exfalso
         have h0:=htx hv
         have hxe:x.size=0:=str_empty (by simpa using hne) h0
         omega
        ·rfl
       have hgood:=valid_good hval
       have hcap:=zgJ hacc4.own
       obtain⟨g1,g2,g3⟩:=hacc4.fin (Z:=w.heap.size) (Nat.le_refl _) (by omega) (.int .i64 a) (.int .i64 st) (.slice A es.length c)
       have Hfin:=hide (show zgx R M 1001 w (.returned (.tuple #[.agg #[.int .i64 a,.int .i64 st,.slice A es.length c],.bool true])) _ from ⟨⟨a,st,es⟩,A,es.length,c,true,rfl,g1,⟨fun _=>hgood,hgood.fair⟩,by omega,g2,g3⟩)
       clear g1 g2 g3 hgood hval
       go_wp2_with fail
       exact bodyPost_ret (v:=.tuple #[.agg #[.int .i64 a,.int .i64 st,.slice A es.length c],.bool true]) (by simp [results,Tryz.results107,go_sem,hz4]) rfl Hfin.out
set_option maxHeartbeats 4000000
structure Tch (w:World) (A:Option Addr) (n:Nat) (B:Option Addr) (m:Nat) (B':Option Addr) (m':Nat) (s:Sys) (p:Aut) (L:Nat):Prop where
 at_:∃ lo hi,zQ w lo hi A n s∧zF w lo hi B m B' m' p∧hi≤w.heap.size
 sv:zj s=true
 pv:zg p=true
 lt:L<64
section
variable {w W:World} {n c m d m' d' L:Nat} {A B B':Option Addr} {s:Sys} {p:Aut}
theorem Tch.ext (h:Tch w A n B m B' m' s p L)(hx:Ext w W):Tch W A n B m B' m' s p L:=by
 obtain⟨lo,hi,h1,h2,h3⟩:=h.at_
 exact⟨⟨lo,hi,h1.ext hx,h2.ext hx,Nat.le_trans h3 hx.size⟩,h.sv,h.pv,h.lt⟩
set_option maxRecDepth 100000 in
theorem zaC (h:Tch w A n B m B' m' s p L) :
  Calls Tryz.prog 142 #[.agg #[.bool false,.int .i64 0,.slice none 0 0,.slice none 0 0,.int .i64 s.al,.int .i64 s.st,.slice A n c,.int .i64 p.al,.slice B m d,.slice B' m' d',.int .i64 L]] w fun e w'=>e=.returned (.int .i64 (L:Nat))∧Ext w w':=by
 obtain⟨lo,hi,h1,h2,h3⟩:=h.at_
 have HV:=hide (fun W (hW:Ext w W)=>zdB (c:=c) (d:=d) (d':=d') (L:=L) (h1.ext hW) (h2.ext hW) h.sv h.pv h.lt)
 have hw1:Ext w (w.alloc (.cells #[.bool false,.int .i64 0,.slice none 0 0,.slice none 0 0,.int .i64 s.al,.int .i64 s.st,.slice A n c,.int .i64 p.al,.slice B m d,.slice B' m' d',.int .i64 L] 100)):=(Ext.refl _).alloc _
 have b1:=Blk.new w 100 #[.bool false,.int .i64 0,.slice none 0 0,.slice none 0 0,.int .i64 s.al,.int .i64 s.st,.slice A n c,.int .i64 p.al,.slice B m d,.slice B' m' d',.int .i64 L]
 clear h h1 h2
 go_enter Tryz.func142,Tryz.ntmps142
 go_upto_region 1 with fail
 generalize w.alloc (.cells #[.bool false,.int .i64 0,.slice none 0 0,.slice none 0 0,.int .i64 s.al,.int .i64 s.st,.slice A n c,.int .i64 p.al,.slice B m d,.slice B' m' d',.int .i64 L] 100)=w1 at *
 have CB:=b1.cells
 have hww:=Ext.refl w1
 go_wp2_with (first
  |(go_at_call 150;refine (HV.out _ hw1).mono ?_;rintro e w2 ⟨rfl,hx2⟩))
 go_ret
 exact⟨rfl,hw1.trans hx2⟩
theorem zde {t:ByteArray}(h:Tch w A n B m B' m' s p L)(ht:t.size≤9223372036854775807) :
  Calls Tryz.prog 187 #[.agg #[.bool false,.int .i64 0,.slice none 0 0,.slice none 0 0,.int .i64 s.al,.int .i64 s.st,.slice A n c,.int .i64 p.al,.slice B m d,.slice B' m' d',.int .i64 L],.string t] w fun e w'=>e=.returned (.bool (zq s p L t))∧Ext w w':=by
 obtain⟨lo,hi,h1,h2,h3⟩:=h.at_
 have HV:=hide (fun W (hW:Ext w W)=>zcN (c:=c) (d:=d) (d':=d') (L:=L) (t:=t) (h1.ext hW) (h2.ext hW) h.sv h.pv h.lt (Nat.le_trans h3 hW.size) ht)
 have hw1:Ext w (w.alloc (.cells #[.bool false,.int .i64 0,.slice none 0 0,.slice none 0 0,.int .i64 s.al,.int .i64 s.st,.slice A n c,.int .i64 p.al,.slice B m d,.slice B' m' d',.int .i64 L] 100)):=(Ext.refl _).alloc _
 have b1:=Blk.new w 100 #[.bool false,.int .i64 0,.slice none 0 0,.slice none 0 0,.int .i64 s.al,.int .i64 s.st,.slice A n c,.int .i64 p.al,.slice B m d,.slice B' m' d',.int .i64 L]
 clear h h1 h2
 go_enter Tryz.func187,Tryz.ntmps187
 go_upto_region 1 with fail
 generalize w.alloc (.cells #[.bool false,.int .i64 0,.slice none 0 0,.slice none 0 0,.int .i64 s.al,.int .i64 s.st,.slice A n c,.int .i64 p.al,.slice B m d,.slice B' m' d',.int .i64 L] 100)=w1 at *
 have CB:=b1.cells
 have hww:=Ext.refl w1
 go_wp2_with (first
  |(go_at_call 83;refine (HV.out _ hw1).mono ?_;rintro e w2 ⟨rfl,hx2⟩))
 go_ret
 exact⟨rfl,hw1.trans hx2⟩
end
theorem str_loop (b:ByteArray):∀ (k:Nat) (i:Nat) (r:List UInt8),b.size - i=k→ByteArray.toList.loop b i r=r.reverse++b.data.toList.drop i:=by
 intro k
 induction k with
 |zero =>
  intro i r h
  unfold ByteArray.toList.loop
  rw [if_neg (by omega),List.drop_of_length_le (by rw [Array.length_toList];show b.size≤i;omega),List.append_nil]
 |succ k ih =>
  intro i r h
  have hi:i<b.size:=by omega
  unfold ByteArray.toList.loop
  rw [if_pos hi,ih (i+1) _ (by omega),List.drop_eq_getElem_cons (i:=i) (by rw [Array.length_toList];exact hi),List.reverse_cons,List.append_assoc]
  have e:b.get! i=b.data.toList[i]'(by rw [Array.length_toList];exact hi):=by
   rw [Array.getElem_toList]
   show b.data[i]! = _
   exact getElem!_pos b.data i hi
  rw [e]
  rfl
theorem str_data (b:ByteArray):b.toList=b.data.toList:=by
 unfold ByteArray.toList
 rw [str_loop b _ 0 [] rfl]
 rfl
theorem str_ext {x y:ByteArray}(h:x.toList=y.toList):x=y:=by
 rw [str_data,str_data] at h
 cases x;cases y
 congr 1
 exact Array.toList_inj.1 h
theorem str_ne {x y:ByteArray}(h:¬ x=y):(x.toList==y.toList)=false:=by
 rw [beq_eq_false_iff_ne]
 exact fun e=>h (str_ext e)
noncomputable def memB (l:List ByteArray) (x:ByteArray):Bool:=by classical exact decide (x∈l)
theorem zdp {l:List ByteArray} {x:ByteArray}:memB l x=true↔x∈l:=by unfold memB;simp
theorem zbS {l:List ByteArray} {x:ByteArray}:memB l x=false↔x∉l:=by rw [← Bool.not_eq_true,zdp]
theorem zcz {w:World} {lo hi n c:Nat} {A:Option Addr} {l:List ByteArray} {x:ByteArray}(h:Reads w lo hi 1 A n (strs l)) :
  Calls Tryz.prog 201 #[.slice A n c,.string x] w fun e w'=>e=.returned (.bool (memB l x))∧w=w':=by
 have hn:=h.len
 have hl:l.length=n:=by have:=h.length;rw [zbm] at this;omega
 have Hl:=hide hl
 clear hl
 go_enter Tryz.func201,Tryz.ntmps201
 go_wp2_with fail
 go_loop [5] (fun iv=>∃ i:Nat,iv=.int .i64 i∧i≤n∧Hid (∀ j,j<i→l[j]?≠some x)) (fun iv=>n - (intOf iv).toNat)
 case atStart=>exact⟨0,rfl,Nat.zero_le _,hide (fun j h=>by omega)⟩
 case round =>
  obtain⟨i,rfl,hi,hdone⟩:=hrel
  by_cases hlt:i<n
  ·have hlt':(i:Int)<(n:Int):=by omega
   obtain⟨ad,y,rfl,_,_,hy,cy⟩:=h.str hlt
   by_cases he:y=x
   ·subst he
    have hb:=hide (zdp.2 (List.mem_of_getElem? hy.out))
    go_wp2_with fail
    go_ret
    exact⟨zk (by rw [hb.out]),rfl⟩
   ·have He:=hide he
    have htest:=str_ne he
    clear he
    go_wp2_with fail
    go_round
    case rel=>exact⟨i+1,by go_num,by omega,hide (fun j hj=>by
     rcases Nat.lt_or_eq_of_le (Nat.le_of_lt_succ hj) with h1|rfl
     ·exact hdone.out j h1
     ·rw [hy.out];intro h;exact He.out (Option.some.inj h))⟩
    case measure=>simp [intOf];omega
  ·obtain rfl:i=n:=by omega
   have hb:=hide (show memB l x=false by
    rw [zbS]
    intro hx
    obtain⟨j,hj⟩:=List.getElem?_of_mem hx
    exact hdone.out j (by have:=(List.getElem?_eq_some_iff.1 hj).1;have:=Hl.out;omega) hj)
   go_wp2_with fail
   go_ret
   exact⟨zk (by rw [hb.out]),rfl⟩
def rowM (f:ByteArray→Bool) (cols:List ByteArray) (x:ByteArray):List Bool:=cols.map fun c=>f (x++c)
def mkB (b:Bool):ByteArray:=if b then ⟨#[43]⟩ else ⟨#[45]⟩
def mkS (bs:List Bool):ByteArray:=bs.foldl (fun o b=>o++mkB b) ByteArray.empty
theorem mkS_snoc (bs:List Bool) (b:Bool):mkS (bs++[b])=mkS bs++mkB b:=by simp [mkS]
theorem zfi:∀ (bs:List Bool),(mkS bs).data.toList=bs.map fun b=>if b then 43 else 45:=by
 have key:∀ (bs:List Bool) (o:ByteArray),(bs.foldl (fun o b=>o++mkB b) o).data.toList=o.data.toList++bs.map fun b=>if b then 43 else 45:=by
  intro bs
  induction bs with
  |nil=>intro o;simp
  |cons b r ih =>
   intro o
   rw [List.foldl_cons,ih,ByteArray.data_append,Array.toList_append,List.append_assoc,List.map_cons]
   cases b<;>rfl
 intro bs
 unfold mkS
 rw [key]
 rfl
theorem map_inj' {α β:Type} {f:α→β}(hf:∀ x y,f x=f y→x=y):∀ {a b:List α},a.map f=b.map f→a=b
 |[],[],_=>rfl
 |[],_ :: _,h=>by simp at h
 |_ :: _,[],h=>by simp at h
 |x :: a,y :: b,h=>by
  simp only [List.map_cons,List.cons.injEq] at h
  rw [hf x y h.1,map_inj' hf h.2]
theorem mkS_inj {a b:List Bool}(h:mkS a=mkS b):a=b:=by
 have h1:(mkS a).data.toList=(mkS b).data.toList:=by rw [h]
 rw [zfi,zfi] at h1
 exact map_inj' (fun x y=>by cases x<;>cases y<;>simp) h1
theorem mkS_size (bs:List Bool):(mkS bs).size=bs.length:=by
 have h:=congrArg List.length (zfi bs)
 rw [List.length_map,Array.length_toList] at h
 exact h
section
variable {w W:World} {n c m d m' d' L:Nat} {A B B':Option Addr} {s:Sys} {p:Aut}
set_option maxRecDepth 100000 in
theorem zdS {C:Option Addr} {nc cc lo hi:Nat} {cols:List ByteArray} {x:ByteArray}(h:Tch w A n B m B' m' s p L)(hC:Reads w lo hi 1 C nc (strs cols))(hc:nc≤1000)(hx:x.size≤1000000)(hcs:∀ y∈cols,y.size≤1000000) :
  Calls Tryz.prog 145 #[.agg #[.bool false,.int .i64 0,.slice none 0 0,.slice none 0 0,.int .i64 s.al,.int .i64 s.st,.slice A n c,.int .i64 p.al,.slice B m d,.slice B' m' d',.int .i64 L],.slice C nc cc,.string x] w fun e w'=>e=.returned (.string (mkS (rowM (zq s p L) cols x)))∧Ext w w':=by
 have hl:cols.length=nc:=by have:=hC.length;rw [zbm] at this;omega
 have HV:=hide (fun W (hW:Ext w W) (y:ByteArray) hy=>zde (c:=c) (d:=d) (d':=d') (t:=y) (h.ext hW) hy)
 have HC:=hide (fun W (hW:Ext w W)=>hC.ext hW)
 have Hl:=hide hl
 have Hcs:=hide hcs
 have hw1:Ext w (w.alloc (.cells #[.bool false,.int .i64 0,.slice none 0 0,.slice none 0 0,.int .i64 s.al,.int .i64 s.st,.slice A n c,.int .i64 p.al,.slice B m d,.slice B' m' d',.int .i64 L] 100)):=(Ext.refl _).alloc _
 have b1:=Blk.new w 100 #[.bool false,.int .i64 0,.slice none 0 0,.slice none 0 0,.int .i64 s.al,.int .i64 s.st,.slice A n c,.int .i64 p.al,.slice B m d,.slice B' m' d',.int .i64 L]
 clear h hC hl hcs
 go_enter Tryz.func145,Tryz.ntmps145
 go_upto_region 1 with fail
 generalize w.alloc (.cells #[.bool false,.int .i64 0,.slice none 0 0,.slice none 0 0,.int .i64 s.al,.int .i64 s.st,.slice A n c,.int .i64 p.al,.slice B m d,.slice B' m' d',.int .i64 L] 100)=w1 at *
 have CB:=b1.cells
 go_wp2_with fail
 go_loopw [7,8] (fun v iv wr=>∃ (k:Nat) (o:ByteArray),iv=.int .i64 k∧k≤nc∧v=.string o∧o.size≤k∧Hid (o=mkS (rowM (zq s p L) (cols.take k) x))∧Ext w1 wr) (fun _ iv _=>nc - (intOf iv).toNat)
 case atStart=>exact⟨0,_,rfl,Nat.zero_le _,rfl,by decide,hide rfl,Ext.refl _⟩
 case round =>
  obtain⟨k,o,rfl,hk,rfl,hos,ho,hxr⟩:=hrel
  by_cases hlt:k<nc
  ·have hlt':(k:Int)<(nc:Int):=by omega
   obtain⟨ad,y,rfl,_,_,hy,cy⟩:=(HC.out wr (hw1.trans hxr)).str hlt
   have hys:=Hcs.out y (List.mem_of_getElem? hy.out)
   have CY:∀ W,Ext wr W→W.cell? (ad.add k)=some (.string y):=fun W hW=>hW.cell_some cy
   have CBr:∀ W,Ext wr W→∀ q,W.cell? ⟨w.heap.size,q,none⟩=#[Value.bool false,.int .i64 0,.slice none 0 0,.slice none 0 0,.int .i64 s.al,.int .i64 s.st,.slice A n c,.int .i64 p.al,.slice B m d,.slice B' m' d',.int .i64 L][q]?:=fun W hW=>CB W (hxr.trans hW)
   have hsz:¬ 9223372036854775807<x.size+y.size:=by omega
   have hsz2:¬ 9223372036854775807<o.size+1:=by omega
   have hsum:(x++y).size≤9223372036854775807:=by rw [ByteArray.size_append];omega
   have HVr:=hide (fun W (hW:Ext wr W)=>HV.out W ((hw1.trans hxr).trans hW) (x++y) hsum)
   have hww:=Ext.refl wr
   have hst:=hide (show mkS (rowM (zq s p L) (cols.take (k+1)) x)=o++mkB (zq s p L (x++y)) by
    rw [List.take_add_one,hy.out,rowM,List.map_append,← rowM,ho.out,Option.toList_some,List.map_singleton,mkS_snoc])
   obtain⟨bv,hbv⟩:∃ bv,Hid (zq s p L (x++y)=bv):=⟨_,rfl⟩
   rw [hbv.out] at HVr hst
   clear cy hsum
   go_wp2_with fail
   go_region_held3 (fun W=>Ext wr W) (first|assumption|(refine Ext.drew ?_;assumption)|(refine Ext.trans ?_ (by assumption);assumption)|(refine Ext.trans ?_ (by assumption);refine Ext.drew ?_;assumption)) (first
    |(go_at_call 187;refine (HVr.out _ ?_).mono ?_;(first|assumption|(refine Ext.drew ?_;assumption));rintro e w7 ⟨rfl,hx7⟩))
   have hx17:Ext w1 w7:=hxr.trans (by assumption)
   cases bv
   all_goals
    go_wp2_with fail
    go_roundw
    case rel=>exact⟨k+1,_,by go_num,by omega,rfl,by rw [ByteArray.size_append];show o.size+1≤k+1;omega,hst.symm,hx17⟩
    case measure=>simp [intOf];omega
  ·obtain rfl:k=nc:=by omega
   have hfin:=hide (show mkS (rowM (zq s p L) cols x)=o by rw [ho.out,List.take_of_length_le (by have:=Hl.out;omega)])
   go_wp2_with fail
   go_ret
   exact⟨by rw [hfin.out];rfl,hw1.trans hxr⟩
end
theorem zcH (es:List Edg):∀ u∈zp es,u.oneCell'=true:=by
 induction es with
 |nil=>intro u h;cases h
 |cons e r ih =>
  intro u h
  simp only [zp,List.mem_cons] at h
  rcases h with rfl|rfl|rfl|h
  ·rfl
  ·rfl
  ·rfl
  ·exact ih u h
theorem zcI {es:List Edg} {k:Nat} {e:Edg}(h:es[k]?=some e) (x:Int) :
  (zp es).set (k*3) (.int .i64 x)=zp (es.set k ⟨x,e.le,e.ta⟩)∧(zp es).set (k*3+1) (.int .i64 x)=zp (es.set k ⟨e.fr,x,e.ta⟩)∧(zp es).set (k*3+2) (.int .i64 x)=zp (es.set k ⟨e.fr,e.le,x⟩):=by
 induction es generalizing k with
 |nil=>simp at h
 |cons a r ih =>
  cases k with
  |zero=>simp at h;subst h;exact⟨rfl,rfl,rfl⟩
  |succ k =>
   have:=ih (k:=k) (by simpa using h)
   have e1:(k+1)*3=k*3+1+1+1:=by omega
   refine⟨?_,?_,?_⟩<;>rw [e1]<;>simp only [zp,List.set_cons_succ]
   ·rw [this.1]
   ·rw [this.2.1]
   ·rw [this.2.2]
section
variable {w0 wB W:World} {R G M:Nat} {al st:Int} {es:List Edg}
theorem Acc.turn {g m c j:Nat} {x:Int} {fs:List Edg}(h:Acc w0 wB W R G M al st (.slice (some ⟨g,0,none⟩) m c) es)(hm:m=es.length)(hs:(zp es).set j (.int .i64 x)=zp fs)(hl:fs.length=es.length) :
  Acc w0 wB (W.setCell ⟨g,j,none⟩ (.int .i64 x)) R G M al st (.slice (some ⟨g,0,none⟩) m c) fs:=by
 have hgG:g≠G:=h.far rfl
 have hg:=(h.own.lt g rfl).1
 have hR:=h.hR
 have hB:=h.hB
 have hf:=Frm.setCell W g j (.int .i64 x)
 refine⟨h.blk.frm hf (by omega),?_,h.rd.frm hf (fun k h1 h2=>by omega),h.dr.setNew (by dsimp only;omega) _,?_,h.hR,h.hB,h.hG⟩
 ·have ho:=h.own
  rw [← hm] at ho
  have:=(ho.stored j (.int .i64 x)).1
  rw [hs] at this
  rw [hl,← hm]
  exact this
 ·exact⟨h.fr.os,h.fr.tape,h.fr.output,by simpa [World.setCell] using h.fr.size,fun k hk hn=>(Below.heap_setCell _ _ _ _ (by dsimp only;omega)).trans (h.fr.block k hk hn)⟩
end
set_option maxHeartbeats 4000000
def RetStrL (w:World) (l:List ByteArray) (e:Ending) (w':World):Prop:=
 ∃ A c,e=.returned (.slice A l.length c)∧w'.ownsRow w.heap.size 9 1 (.slice A l.length c) l.length (strs l)∧Ext w w'
def zbi (f:ByteArray→Bool) (cols words:List ByteArray):List ByteArray:=words.map fun x=>mkS (rowM f cols x)
theorem strs_snoc (l:List ByteArray) (x:ByteArray):strs (l++[x])=strs l++[.string x]:=by simp [strs]
section
variable {w W:World} {n c m d m' d' L:Nat} {A B B':Option Addr} {s:Sys} {p:Aut}
set_option maxRecDepth 100000 in
theorem zdg {C R:Option Addr} {nc cc nr cr lo hi lo2 hi2:Nat} {cols rows:List ByteArray}(h:Tch w A n B m B' m' s p L)(hC:Reads w lo hi 1 C nc (strs cols))(hR:Reads w lo2 hi2 1 R nr (strs rows))(hc:nc≤1000)(hr:nr≤1000)(hcs:∀ y∈cols,y.size≤1000000)(hrs:∀ y∈rows,y.size≤1000000) :
  Calls Tryz.prog 143 #[.agg #[.bool false,.int .i64 0,.slice none 0 0,.slice none 0 0,.int .i64 s.al,.int .i64 s.st,.slice A n c,.int .i64 p.al,.slice B m d,.slice B' m' d',.int .i64 L],.slice C nc cc,.slice R nr cr] w (RetStrL w (zbi (zq s p L) cols rows)):=by
 have hl:rows.length=nr:=by have:=hR.length;rw [zbm] at this;omega
 have HV:=hide (fun W (hW:Ext w W) (y:ByteArray) hy=>zdS (c:=c) (d:=d) (d':=d') (cc:=cc) (x:=y) (h.ext hW) (hC.ext hW) hc hy hcs)
 have HR:=hide (fun W (hW:Ext w W)=>hR.ext hW)
 have Hl:=hide hl
 have Hrs:=hide hrs
 have hw1:Ext w (w.alloc (.cells #[.bool false,.int .i64 0,.slice none 0 0,.slice none 0 0,.int .i64 s.al,.int .i64 s.st,.slice A n c,.int .i64 p.al,.slice B m d,.slice B' m' d',.int .i64 L] 100)):=(Ext.refl _).alloc _
 have b1:=Blk.new w 100 #[.bool false,.int .i64 0,.slice none 0 0,.slice none 0 0,.int .i64 s.al,.int .i64 s.st,.slice A n c,.int .i64 p.al,.slice B m d,.slice B' m' d',.int .i64 L]
 clear h hC hR hl hrs hcs
 go_enter Tryz.func143,Tryz.ntmps143
 go_upto_region 1 with fail
 generalize w.alloc (.cells #[.bool false,.int .i64 0,.slice none 0 0,.slice none 0 0,.int .i64 s.al,.int .i64 s.st,.slice A n c,.int .i64 p.al,.slice B m d,.slice B' m' d',.int .i64 L] 100)=w1 at *
 have CB:=b1.cells
 go_wp2_with fail
 go_loopw [7,8] (fun v iv wr=>∃ k:Nat,iv=.int .i64 k∧k≤nr∧wr.ownsRow w1.heap.size 9 1 v k (strs (zbi (zq s p L) cols (rows.take k)))∧Ext w1 wr) (fun _ iv _=>nr - (intOf iv).toNat)
 case atStart=>exact⟨0,rfl,Nat.zero_le _,World.ownsRow_lit w1 #[] 0 (Nat.le_refl _) (by unfold maxLen;omega) rfl,(Ext.refl _).alloc _⟩
 case round =>
  obtain⟨k,rfl,hk,hown,hxr⟩:=hrel
  by_cases hlt:k<nr
  ·have hlt':(k:Int)<(nr:Int):=by omega
   obtain⟨ad,y,rfl,_,_,hy,cy⟩:=(HR.out wr (hw1.trans hxr)).str hlt
   have hys:=Hrs.out y (List.mem_of_getElem? hy.out)
   have CY:∀ W,Ext wr W→W.cell? (ad.add k)=some (.string y):=fun W hW=>hW.cell_some cy
   have CBr:∀ W,Ext wr W→∀ q,W.cell? ⟨w.heap.size,q,none⟩=#[Value.bool false,.int .i64 0,.slice none 0 0,.slice none 0 0,.int .i64 s.al,.int .i64 s.st,.slice A n c,.int .i64 p.al,.slice B m d,.slice B' m' d',.int .i64 L][q]?:=fun W hW=>CB W (hxr.trans hW)
   have HVr:=hide (fun W (hW:Ext wr W)=>HV.out W ((hw1.trans hxr).trans hW) y hys)
   have hww:=Ext.refl wr
   have hst:=hide (show strs (zbi (zq s p L) cols (rows.take (k+1)))=strs (zbi (zq s p L) cols (rows.take k))++[.string (mkS (rowM (zq s p L) cols y))] by
    rw [List.take_add_one,hy.out,zbi,List.map_append,← zbi,Option.toList_some,List.map_singleton,strs_snoc])
   generalize mkS (rowM (zq s p L) cols y)=z at *
   clear cy
   go_wp2_with fail
   refine uR (fun X=>Ext wr X) [9] (OrdU.of [0,1,2,3,4,5,6,7,8,9,10]) ?_
   refine uQ ?_
   (refine zb rfl rfl rfl (fun K hK=>?_);go_simp)
   refine (HVr.out _ hww.drew).mono ?_
   rintro e w5 ⟨rfl,hx5⟩
   have hxr5:Ext wr w5:=hww.drew.trans hx5
   refine hK.out _ _ hxr5 ?_
   refine pT ?_
   refine uQ ?_
   (refine zb rfl rfl rfl (fun K hK=>?_);go_simp)
   refine hK.out _ _ (hxr5.alloc _) ?_
   refine pT ?_
   (refine za rfl rfl rfl rfl (fun K hK=>?_))
   refine zaG w1 w5 _ _ _ rfl 9 _ 1 16 Tryz.underlying101 zm rfl (by decide) _ k (strs (zbi (zq s p L) cols (rows.take k))) _ _ rfl rfl (hxr.trans hxr5).size (zf hown hxr5) rfl (zbI _) (by unfold maxLen;omega) (by omega) ?_
   intro g8 cap8 w8 hown8 hg8 hat8 hlt8
   refine hK.out _ _ ?_
   refine pT ?_
   refine uQ ?_
   refine zd ?_
   go_wp2_with fail
   go_roundw
   case rel=>exact⟨k+1,by go_num,by omega,by rw [hst.out];exact hown8,(hxr.trans hxr5).grown hg8 (fun k hk=>(hown.lt k hk).1)⟩
   case measure=>simp [intOf];omega
  ·obtain rfl:k=nr:=by omega
   obtain⟨A5,c5,rfl⟩:=zh hown
   have hfin:=hide (show (rows.take k)=rows from List.take_of_length_le (by have:=Hl.out;omega))
   rw [hfin.out] at hown
   have hlen:=hide (show (zbi (zq s p L) cols rows).length=k by rw [zbi,List.length_map];exact Hl.out)
   go_wp2_with fail
   go_ret
   exact⟨A5,c5,by rw [hlen.out];rfl,by rw [hlen.out];exact zn hown hw1.size,hw1.trans hxr⟩
theorem zeO {x:ByteArray}(h:Tch w A n B m B' m' s p L)(hx:x.size≤9223372036854775807) :
  Calls Tryz.prog 199 #[.agg #[.bool false,.int .i64 0,.slice none 0 0,.slice none 0 0,.int .i64 s.al,.int .i64 s.st,.slice A n c,.int .i64 p.al,.slice B m d,.slice B' m' d',.int .i64 L],.string x] w fun e w'=>e=.returned (.bool (inB x L&&decide (x.size≤4000)))∧Ext w w':=by
 have HV:=hide (fun W (hW:Ext w W)=>zaC (c:=c) (d:=d) (d':=d') (h.ext hW))
 have hL:=h.lt
 have hw1:Ext w (w.alloc (.cells #[.bool false,.int .i64 0,.slice none 0 0,.slice none 0 0,.int .i64 s.al,.int .i64 s.st,.slice A n c,.int .i64 p.al,.slice B m d,.slice B' m' d',.int .i64 L] 100)):=(Ext.refl _).alloc _
 have b1:=Blk.new w 100 #[.bool false,.int .i64 0,.slice none 0 0,.slice none 0 0,.int .i64 s.al,.int .i64 s.st,.slice A n c,.int .i64 p.al,.slice B m d,.slice B' m' d',.int .i64 L]
 clear h
 cases hin:inB x L
 all_goals
  have Hin:=hide hin
  clear hin
  go_enter Tryz.func199,Tryz.ntmps199
  go_upto_region 1 with fail
  generalize w.alloc (.cells #[.bool false,.int .i64 0,.slice none 0 0,.slice none 0 0,.int .i64 s.al,.int .i64 s.st,.slice A n c,.int .i64 p.al,.slice B m d,.slice B' m' d',.int .i64 L] 100)=w1 at *
  have CB:=b1.cells
  have hww:=Ext.refl w1
  go_wp2_with (first
   |(go_at_call 142;refine (HV.out _ hw1).mono ?_;rintro e w2 ⟨rfl,hx2⟩)
   |(go_at_call 151;refine (zaF hx (by omega)).mono ?_;rw [Hin.out];rintro e w3 ⟨rfl,rfl⟩))
  go_ret
  exact⟨zk (by first|rfl|(rw [Bool.true_and,decide_eq_decide];omega)),hw1.trans hx2⟩
end
def letS (l:Nat):ByteArray:=strOfNums [((97+l:Nat):Int)]
theorem zcZ (l:Nat):(letS l).size=1:=strOfNums_size _
structure TabI (L:Nat) (f:ByteArray→Bool) (rows cols:List ByteArray):Prop where
 r1:1≤rows.length
 r12:rows.length≤12
 c1:1≤cols.length
 c20:cols.length≤20
 r0:rows[0]?=some ⟨#[]⟩
 c0:cols[0]?=some ⟨#[]⟩
 rw_:∀ (i:Nat) (x:ByteArray),1≤i→rows[i]?=some x→inB x L=true∧∃ y l,l<6∧x=y++letS l∧y∈rows.take i
 cw:∀ (i:Nat) (x:ByteArray),1≤i→cols[i]?=some x→inB x L=true∧x.size≤4000∧x∉cols.take i
 nd:(rows.map (rowM f cols)).Nodup
section
variable {L:Nat} {f:ByteArray→Bool} {rows cols:List ByteArray}
theorem inB_empty (L:Nat):inB ⟨#[]⟩ L=true:=by unfold inB overB;rfl
theorem TabI.rsz (h:TabI L f rows cols):∀ (i:Nat) (x:ByteArray),rows[i]?=some x→x.size≤i:=by
 intro i
 induction i using Nat.strongRecOn with
 |ind i ih =>
  intro x hx
  rcases Nat.eq_zero_or_pos i with rfl|hi
  ·rw [h.r0] at hx
   obtain rfl:=Option.some.inj hx
   exact Nat.le_refl _
  ·obtain⟨-,y,l,hl,rfl,hy⟩:=h.rw_ i x hi hx
   obtain⟨j,hj⟩:=List.getElem?_of_mem hy
   have hji:j<i:=by have:=(List.getElem?_eq_some_iff.1 hj).1;rw [List.length_take] at this;omega
   rw [List.getElem?_take_of_lt hji] at hj
   have:=ih j hji y hj
   rw [ByteArray.size_append,zcZ l]
   omega
theorem TabI.rin (h:TabI L f rows cols) {x:ByteArray}(hx:x∈rows):inB x L=true∧x.size≤12:=by
 obtain⟨i,hi⟩:=List.getElem?_of_mem hx
 have hil:=(List.getElem?_eq_some_iff.1 hi).1
 refine⟨?_,by have:=h.rsz i x hi;have:=h.r12;omega⟩
 rcases Nat.eq_zero_or_pos i with rfl|h0
 ·rw [h.r0] at hi
  obtain rfl:=Option.some.inj hi
  exact inB_empty L
 ·exact (h.rw_ i x h0 hi).1
theorem TabI.cin (h:TabI L f rows cols) {x:ByteArray}(hx:x∈cols):inB x L=true∧x.size≤4000:=by
 obtain⟨i,hi⟩:=List.getElem?_of_mem hx
 rcases Nat.eq_zero_or_pos i with rfl|h0
 ·rw [h.c0] at hi
  obtain rfl:=Option.some.inj hi
  exact⟨inB_empty L,by decide⟩
 ·exact⟨(h.cw i x h0 hi).1,(h.cw i x h0 hi).2.1⟩
theorem rowsM_nodup (h:TabI L f rows cols):(zbi f cols rows).Nodup:=by
 have h1:=h.nd
 unfold zbi
 have h2:rows.map (fun x=>mkS (rowM f cols x))=(rows.map (rowM f cols)).map mkS:=by rw [List.map_map];rfl
 rw [h2]
 exact List.pairwise_map.2 (h1.imp fun hne e=>hne (mkS_inj e))
end
set_option maxHeartbeats 4000000
def TabAt (w:World) (R:Option Addr) (nr:Nat) (C:Option Addr) (nc:Nat) (rows cols:List ByteArray):Prop:=
 ∃ lo hi lo2 hi2,Reads w lo hi 1 R nr (strs rows)∧Reads w lo2 hi2 1 C nc (strs cols)
theorem TabAt.ext {w W:World} {R C:Option Addr} {nr nc:Nat} {rows cols:List ByteArray}(h:TabAt w R nr C nc rows cols)(hx:Ext w W):TabAt W R nr C nc rows cols:=by
 obtain⟨lo,hi,lo2,hi2,h1,h2⟩:=h
 exact⟨lo,hi,lo2,hi2,h1.ext hx,h2.ext hx⟩
theorem TabAt.nr {w:World} {R C:Option Addr} {nr nc:Nat} {rows cols:List ByteArray}(h:TabAt w R nr C nc rows cols):rows.length=nr∧cols.length=nc:=by
 obtain⟨lo,hi,lo2,hi2,h1,h2⟩:=h
 have e1:=h1.length
 have e2:=h2.length
 rw [zbm] at e1 e2
 omega
theorem Reads.takeS {w:World} {lo hi n k:Nat} {A:Option Addr} {l:List ByteArray}(h:Reads w lo hi 1 A n (strs l))(hk:k≤n):Reads w lo hi 1 A k (strs (l.take k)):=by
 have hl:=h.length
 rw [zbm] at hl
 refine⟨by rw [zbm,List.length_take];omega,by have:=h.len;omega,fun h0=>?_⟩
 obtain⟨ad,e,h1,h2,h3⟩:=h.2.2 (by omega)
 refine⟨ad,e,h1,h2,fun j u hu=>h3 j u ?_⟩
 unfold strs at hu ⊢
 rw [List.map_take] at hu
 have hj:j<k:=by have:=(List.getElem?_eq_some_iff.1 hu).1;rw [List.length_take] at this;omega
 rwa [List.getElem?_take_of_lt hj] at hu
theorem str_front (y:ByteArray) (l:Nat):(y++letS l).extract 0 y.size=y:=by
 rw [ByteArray.extract_append_eq_left rfl]
section
variable {w W:World} {L nr nc cr cc:Nat} {R C:Option Addr} {rows cols:List ByteArray} {f:ByteArray→Bool}
set_option maxRecDepth 100000 in
theorem zgO (hT:TabAt w R nr C nc rows cols)(hI:TabI L f rows cols)(hL:L<64)(hcr:nr≤cr)(hcc:nc≤cc) :
  Calls Tryz.prog 210 #[.int .i64 L,.agg #[.slice R nr cr,.slice C nc cc]] w fun e w'=>e=.returned (.bool true)∧Ext w w':=by
 obtain⟨e1,e2⟩:=hT.nr
 have hr1:=hI.r1;have hr12:=hI.r12;have hc1:=hI.c1;have hc20:=hI.c20
 rw [e1] at hr1 hr12
 rw [e2] at hc1 hc20
 obtain⟨lo,hi,lo2,hi2,h1,h2⟩:=hT
 obtain⟨ad,x,rfl,_,_,hx,cx⟩:=h1.str (show 0<nr by omega)
 obtain⟨bd,y,rfl,_,_,hy,cy⟩:=h2.str (show 0<nc by omega)
 obtain rfl:=Option.some.inj (hx.out.symm.trans hI.r0)
 obtain rfl:=Option.some.inj (hy.out.symm.trans hI.c0)
 rw [addr_zero] at cx cy
 have H1:=hide (fun W (hW:Ext w W)=>h1.ext hW)
 have H2:=hide (fun W (hW:Ext w W)=>h2.ext hW)
 have HI:=hide hI
 have hw1:Ext w (w.alloc (.cells #[.slice (some ad) nr cr,.slice (some bd) nc cc] 103)):=(Ext.refl _).alloc _
 have b1:=Blk.new w 103 #[.slice (some ad) nr cr,.slice (some bd) nc cc]
 have CX:=fun W (hW:Ext w W)=>hW.cell_some cx
 have CY:=fun W (hW:Ext w W)=>hW.cell_some cy
 clear h1 h2 hI hx hy cx cy e1 e2
 go_enter Tryz.func210,Tryz.ntmps210
 go_upto_region 1 with fail
 generalize w.alloc (.cells #[.slice (some ad) nr cr,.slice (some bd) nc cc] 103)=w1 at *
 have k1:=b1.cell
 have cx:=CX _ hw1
 have cy:=CY _ hw1
 have hww:=Ext.refl w1
 go_wp2_with fail
 go_loopw [7] (fun iv wr=>∃ k:Nat,1≤k∧k≤nr∧iv=.int .i64 k∧Ext w1 wr) (fun iv _=>nr - (intOf iv).toNat)
 case atStart=>exact⟨1,Nat.le_refl _,hr1,rfl,hww⟩
 case round =>
  clear hww k1 cx cy
  obtain⟨k,hk1,hk,rfl,hxr⟩:=hrel
  by_cases hlt:k<nr
  ·have hlt':(k:Int)<(nr:Int):=by omega
   have hkc:(k:Int)≤(cr:Int):=by omega
   obtain⟨ad1,x,e,_,_,hx,cx⟩:=(H1.out wr (hw1.trans hxr)).str hlt
   obtain rfl:=Option.some.inj e
   obtain⟨hin,y,l,hl,hxy,hy⟩:=HI.out.rw_ k x hk1 hx.out
   have hsz:x.size=y.size+1:=by rw [hxy,ByteArray.size_append,zcZ]
   have hxt:x.extract 0 y.size=y:=by rw [hxy,str_front]
   have h0:0<x.size:=by omega
   have hys:y.size≤12:=by have:=HI.out.rsz k x hx.out;omega
   have hmem:=hide (zdp.2 hy)
   have HRt:=hide (fun W (hW:Ext w W)=>(H1.out W hW).takeS hk)
   have Hin:=hide hin
   have CXr:∀ W,Ext wr W→W.cell? (ad.add k)=some (.string x):=fun W hW=>hW.cell_some cx
   have CB:∀ W,Ext wr W→∀ q,W.cell? ⟨w.heap.size,q,none⟩=#[Value.slice (some ad) nr cr,.slice (some bd) nc cc][q]?:=fun W hW=>(b1.ext (hxr.trans hW)).cell
   have hww:=Ext.refl wr
   have hwr:IntKind.i64.wrap (y.size:Int)=(y.size:Int):=IntWalk.i64_in _ (by omega)
   have hne:((y.size:Int)+1==0)=false:=by simp;omega
   have hyx:(y.size:Int)≤(y.size:Int)+1:=by omega
   clear hin hy hxy cx hx hl e
   go_wp2_with fail
   refine uR (fun X=>Ext wr X) [] (OrdU.of [0,1,2,3,4,5,6,7,8,9,10,11,12,13,14,15,16,17,18,19,20,21]) ?_
   refine uQ ?_
   (refine zb rfl rfl rfl (fun K hK=>?_);go_simp)
   refine (zaF (by omega) (by omega)).mono ?_
   rw [Hin.out]
   rintro e w3 ⟨rfl,rfl⟩
   refine hK.out _ _ hww.drew ?_
   refine pT ?_
   refine uQ ?_
   (refine zb rfl rfl rfl (fun K hK=>?_);go_simp)
   refine (zcz (HRt.out _ (hw1.trans (hxr.trans hww.drew)))).mono ?_
   rw [hmem.out]
   rintro e w4 ⟨rfl,rfl⟩
   refine hK.out _ _ hww.drew ?_
   refine pT ?_
   refine uQ ?_
   refine zd ?_
   go_wp2_with fail
   go_roundw
   case rel=>exact⟨k+1,by omega,by omega,by go_num,hxr.trans hww.drew⟩
   case measure=>simp [intOf];omega
  ·have hge:(nr:Int)≤(k:Int):=by omega
   go_wp2_with fail
   go_loopw [9] (fun iv wr=>∃ k:Nat,1≤k∧k≤nc∧iv=.int .i64 k∧Ext w1 wr) (fun iv _=>nc - (intOf iv).toNat)
   case atStart=>exact⟨1,Nat.le_refl _,hc1,rfl,hxr⟩
   case round =>
    clear hxr hge hlt hk hk1
    obtain⟨k,hk1,hk,rfl,hxr⟩:=hrel
    by_cases hlt:k<nc
    ·have hlt':(k:Int)<(nc:Int):=by omega
     have hkc:(k:Int)≤(cc:Int):=by omega
     obtain⟨bd1,x,e,_,_,hx,cx⟩:=(H2.out wr (hw1.trans hxr)).str hlt
     obtain rfl:=Option.some.inj e
     obtain⟨hin,hsz,hni⟩:=HI.out.cw k x hk1 hx.out
     have hsz':¬ (4000<(x.size:Int)):=by omega
     have hmem:=hide (zbS.2 hni)
     have HRt:=hide (fun W (hW:Ext w W)=>(H2.out W hW).takeS hk)
     have Hin:=hide hin
     have CXr:∀ W,Ext wr W→W.cell? (bd.add k)=some (.string x):=fun W hW=>hW.cell_some cx
     have CB:∀ W,Ext wr W→∀ q,W.cell? ⟨w.heap.size,q,none⟩=#[Value.slice (some ad) nr cr,.slice (some bd) nc cc][q]?:=fun W hW=>(b1.ext (hxr.trans hW)).cell
     have hww:=Ext.refl wr
     clear hin hni cx hx e
     go_wp2_with (first
      |(go_at_call 151;refine (zaF (by omega) (by omega)).mono ?_;rw [Hin.out];rintro e w3 ⟨rfl,rfl⟩)
      |(go_at_call 201;refine (zcz (HRt.out _ (hw1.trans hxr))).mono ?_;rw [hmem.out];rintro e w3 ⟨rfl,rfl⟩))
     go_roundw
     case rel=>exact⟨k+1,by omega,by omega,by go_num,hxr⟩
     case measure=>simp [intOf];omega
    ·have hge:(nc:Int)≤(k:Int):=by omega
     go_wp2_with fail
     go_ret
     exact⟨rfl,hw1.trans hxr⟩
end
end Go.Proofs.YtndhahednhnnbaaGreatDoor
