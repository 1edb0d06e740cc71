/- impl.leadsTo -/
import Derived.Test.YtmjaepibdpfblaaGreatDoorK15
import Derived.Test.YtmjaepibdpfblaaGreatDoorK14
import Derived.Test.YtmjaepibdpfblaaGreatDoorK01
set_option maxHeartbeats 4000000
set_option maxRecDepth 100000
namespace Go.Proofs.YtmjaepibdpfblaaGreatDoor
open Go Go.RowKit
theorem world_of (W:World) {base:Nat}(h:base≤W.heap.size):∃ wb:World,wb.heap.size=base:=⟨{ W with heap:=W.heap.extract 0 base },by simp;omega⟩
theorem zeA.valid {a t:Aut} {xs:List Nat}(h:zeA a t xs)(ha:zi a=true):zi t=true:=by
 obtain⟨⟨a0,a1⟩,⟨n1,n12⟩,-,-⟩:=zj ha
 have hf:=h.few ha
 have h1:1≤xs.length:=by have:=(List.getElem?_eq_some_iff.1 h.nb.x0).1;omega
 unfold zi
 simp only [Bool.and_eq_true,decide_eq_true_eq,List.all_eq_true]
 refine⟨by rw [h.al];exact⟨a0,a1⟩,⟨by rw [h.len];omega,by rw [h.len];omega⟩,by rw [h.acc,List.length_map,h.len],fun row hrow=>?_⟩
 obtain⟨j,hj⟩:=List.getElem?_of_mem hrow
 have hjl:=(List.getElem?_eq_some_iff.1 hj).1
 obtain⟨x,hx⟩:∃ x,xs[j]?=some x:=⟨_,List.getElem?_eq_getElem (by rw [← h.len];exact hjl)⟩
 obtain⟨r,h2,h3,h4⟩:=h.nb.done j x hjl hx
 rw [hj] at h2
 obtain rfl:=Option.some.inj h2
 rw [h.al]
 unfold zhO
 simp only [Bool.and_eq_true,decide_eq_true_eq,List.all_eq_true]
 refine⟨h3,fun q hq=>?_⟩
 obtain⟨k,hk⟩:=List.getElem?_of_mem hq
 have hkl:=(List.getElem?_eq_some_iff.1 hk).1
 obtain⟨l,hl⟩:∃ l,(letters a.al.toNat 6)[k]?=some l:=⟨_,List.getElem?_eq_getElem (by rw [← h3];exact hkl)⟩
 obtain⟨m,h5,h6⟩:=h4 k l hl
 rw [hk] at h5
 obtain rfl:=Option.some.inj h5
 have:=(List.getElem?_eq_some_iff.1 h6).1
 rw [h.len]
 omega
section
variable {w W:World} {lo hi m d m' d' g3 g2 n x l:Nat} {B B':Option Addr} {a:Aut}
theorem lead_next {U:Option Addr} {uc base c:Nat} {A:Option Addr} {ys:List Nat} {mm:Nat}(hb:Blk W g3 177 #[.slice U a.next.length uc])(hU:TbO W U uc a)(hx:x<a.next.length)(hl:l<6)(hg:g3<base)(hbs:base≤W.heap.size)(hm:mm≤1099511627776) (zil:W.ownsRow base 3 1 (.slice A mm c) mm (zaq ys)) :
  Calls Tryz.prog 195 (#[.int .i64 (x:Nat),.int .i64 (l:Nat),.slice A mm c]++#[.pointer (some ⟨g3,0,none⟩)]) W fun e W'=>∃ A' c',e=.returned (.slice A' (ys++[aGo a x l]).length c')∧W'.ownsRow base 3 1 (.slice A' (ys++[aGo a x l]).length c') (ys++[aGo a x l]).length (zaq (ys++[aGo a x l]))∧Frm (fun k=>(Value.slice A mm c).ownBlock=some k) W W':=by
 obtain⟨lo,hi,hT⟩:=hU.at_
 obtain⟨gu,ou,rfl,cu⟩:=hT.at_ hx hl
 have cg:=hb.cell
 have hxm:(x:Int)<(a.next.length:Int):=by omega
 have hl6:(l:Int)<6:=by omega
 have hys:ys.length=mm:=by have:=zdK zil;simpa [zaq] using this
 obtain⟨wb,hwb⟩:=world_of W hbs
 subst hwb
 have Hys:=za hys
 clear hys hT hU
 generalize aGo a x l=y at *
 show Calls Tryz.prog 195 #[.int .i64 (x:Nat),.int .i64 (l:Nat),.slice A mm c,.pointer (some ⟨g3,0,none⟩)] W _
 go_enter Tryz.func195,Tryz.ntmps195
 go_wp2_with (at_builtin;refine zX wb W rfl _ _ _ rfl 3 _ 1 8 Tryz.underlying137 zY rfl (by decide) (.slice A mm c) mm (zaq ys) _ _ rfl rfl hbs zil rfl (zaI _) (by unfold maxLen;omega) (by omega) ?_;intro g9 cap9 w9 hown9 hg9 hat9 hlt9)
 have zio:=za (show w9.ownsRow wb.heap.size 3 1 (.slice (some ⟨g9,0,none⟩) (ys.length+1) cap9) (ys.length+1) (zaq (ys++[y])) by
  rw [Hys.out]
  simpa [zaq] using hown9)
 go_ret
 refine⟨some ⟨g9,0,none⟩,cap9,?_,zio.out,Frm.of_grown hg9⟩
 show Ending.returned (Value.slice (some ⟨g9,0,none⟩) (mm+1) cap9)=_
 rw [Hys.out]
theorem lead_goal (hb:Blk W g2 31 #[.int .i64 a.al,.slice B m d,.slice B' m' d'])(h:zG W lo hi B m B' m' a)(hx:x<a.acc.length) :
  Calls Tryz.prog 196 (#[.int .i64 (x:Nat)]++#[.pointer (some ⟨g2,0,none⟩)]) W fun e W'=>e=.returned (.bool (zbr a x))∧Ext W W':=by
 have hm:=h.n2
 have hxm:x<m':=by omega
 obtain⟨ad,bb,rfl,-,-,hbb,cb⟩:=h.2.2.bool hxm
 have cg:=hb.cell
 have hxi:(x:Int)<(m':Int):=by omega
 have hbe:=za (show zbr a x=bb by unfold zbr;rw [List.getD_eq_getElem?_getD,hbb.out];rfl)
 clear h hm
 show Calls Tryz.prog 196 #[.int .i64 (x:Nat),.pointer (some ⟨g2,0,none⟩)] W _
 go_enter Tryz.func196,Tryz.ntmps196
 go_wp2_with fail
 go_ret
 exact⟨zk (by rw [hbe.out]),Ext.refl _⟩
end
def RetLead (w:World) (a:Aut) (x:Nat) (e:Ending) (w':World):Prop:=∃ b:Bool,e=.returned (.bool b)∧(b=false→∀ v:List Nat,(∀ l∈v,l∈letters a.al.toNat 6)→zbr a (zcL a x v)=false)∧Ext w w'
theorem goes_run (a:Aut) (x:Nat):∀ (n:Nat) (v:List Nat),v.length=n→zcA (fun q l=>[aGo a q l]) [x] v (zcL a x v):=by
 intro n
 induction n with
 |zero =>
  intro v hl
  obtain rfl:=List.eq_nil_of_length_eq_zero hl
  exact .nil (by simp [zcL])
 |succ n ih =>
  intro v hl
  rcases zaA v with rfl|⟨w,l,rfl⟩
  ·simp at hl
  rw [zcv]
  exact .snoc (ih w (by simpa using hl)) (by simp)
section
variable {w:World} {lo hi m d m' d':Nat} {B B':Option Addr} {a:Aut}
theorem yK16a1 {P:Prop}(h:P:=by
 (refine zb rfl rfl rfl rfl (fun K hK=>?_))
 go_simp
 refine (key.out _ hcd _ _ _ _ _ (zck bS) (zal.own oL)).mono ?_
 rintro e w32 ⟨hxn,hcase⟩
 replace hcd:=hcd.trans hxn
 clear hxn
 rcases hcase with ⟨v,rfl,hF⟩|⟨rfl,hF⟩
 ·refine hK.out _ _ ?_
  refine pT ?_
  refine uQ ?_
  refine ze ?_
  go_wp2_with fail
  go_ret
  clear hF
  exact⟨true,rfl,(fun h=>by cases h),hx0.trans (hx2.trans hcd)⟩
 ·refine hK.out _ _ ?_
  refine pT ?_
  refine uQ ?_
  refine ze ?_
  go_wp2_with fail
  go_ret
  exact⟨false,rfl,fun _ v hv=>hF v (by rw [HLe.out];exact hv) _ (goes_run a x _ v rfl),hx0.trans (hx2.trans hcd)⟩
 ):P:=h
theorem zdF {x:Nat}(h:zG w lo hi B m B' m' a)(hv:zi a=true)(hx:x<a.next.length) :
  Calls Tryz.prog 104 #[.agg #[.int .i64 a.al,.slice B m d,.slice B' m' d'],.int .i64 (x:Nat)] w (RetLead w a x):=by
 obtain⟨⟨al0,al1⟩,⟨n1,n12⟩,hacl,-⟩:=zj hv
 obtain⟨al,hal⟩:∃ al:Nat,Hid (a.al=al):=⟨a.al.toNat,by unfold Hid;omega⟩
 have hsm:Sm al:=by have:=hal.out;unfold Sm;omega
 have HLe:=za (show letters al 6=letters a.al.toNat 6 by rw [hal.out];rfl)
 have HA:=za (fun W (hW:Ext w W)=>h.ext hW)
 have Hv:=za hv
 have Hacl:=za hacl
 have Hx:=za hx
 have hN12:=za n12
 clear h hv al0 al1 hacl hx n1 n12
 have hx0:Ext w (w.alloc (.cells #[.int .i64 a.al,.slice B m d,.slice B' m' d'] 31)):=(Ext.refl _).alloc _
 have b1:=Blk.new w 31 #[.int .i64 a.al,.slice B m d,.slice B' m' d']
 go_enter Tryz.func104,Tryz.ntmps104
 go_upto_region 1 with fail
 generalize w.alloc (.cells #[.int .i64 a.al,.slice B m d,.slice B' m' d'] 31)=w0 at *
 have CA:=b1.cells
 have hww0:=Ext.refl w0
 go_upto_region 2 with (first
  |(go_at_call 155;refine (zbf (HA.out _ hx0) Hv.out).mono ?_;rintro e w1 ⟨U,uc,rfl,hU,hx1⟩))
 have b3:=Blk.new w1 177 #[.slice U a.next.length uc]
 have hxa:=(Ext.refl w1).alloc (.cells #[.slice U a.next.length uc] 177)
 have hU2:=hU.ext hxa
 have hx2:=hx1.trans hxa
 have hsz2:w1.heap.size<(w1.alloc (.cells #[.slice U a.next.length uc] 177)).heap.size:=by simp
 clear hU hx1 hxa
 generalize w1.alloc (.cells #[.slice U a.next.length uc] 177)=w2 at *
 generalize w1.heap.size=g3 at *
 have b12:=b1.ext hx2
 have key:=za (fun W (hW:Ext w2 W) A1 c1 AL q' cL (hA1:zal W A1 1 [x]) (hL:zal W AL q' (letters al 6))=>zdi (w:=W) (N:=a.next.length) (kn:=195) (kg:=196) (m:=1) (c:=c1) (cL:=cL) (capn:=#[.pointer (some ⟨g3,0,none⟩)]) (capg:=#[.pointer (some ⟨w.heap.size,0,none⟩)]) (goal:=zbr a) (d:=fun q l=>[aGo a q l]) (start:=[x]) (D:=1)
  hA1 (fun n hn=>by rw [List.mem_singleton.1 hn];exact Hx.out) (by omega) hL (zdH al) (by have:=hN12.out;omega) (by omega) (fun _ _=>rfl) (fun _ _=>rfl)
  (fun W' hW' n hn=>lead_goal (b12.ext (hW.trans hW')) (HA.out _ (hx0.trans (hx2.trans (hW.trans hW')))) (by rw [Hacl.out];exact hn))
  (fun n l hn hl=>⟨by simp,fun y hy=>by rw [List.mem_singleton.1 hy];exact zdC Hv.out hn (zF.1 hl).1⟩)
  (fun W' hW' n l hn hl base A m c ys hb0 hb hm zil=>lead_next (b3.ext (hW.trans hW')) (hU2.ext (hW.trans hW')) hn (zF.1 hl).1 (by have:=hW.size;omega) hb hm zil))
 have CA2:∀ W,Ext w2 W→∀ q,W.cell? ⟨w.heap.size,q,none⟩=#[Value.int .i64 al,.slice B m d,.slice B' m' d'][q]?:=fun W hW=>by
  have:=CA W (hx2.trans hW)
  rwa [hal.out] at this
 have C3:=b3.cells
 obtain⟨N,hN⟩:∃ N,Hid (a.next.length=N):=⟨_,rfl⟩
 rw [hN.out] at key C3
 clear CA hww0 b1 b12 b3 hU2
 have hcu:=Ext.refl w2
 go_upto_region 2 with fail
 have hcd:=hcu.drew
 refine uR (fun X=>Ext w2 X) [9] (zw.app [0,1,2,4,5,7,8] (zw.two 3 (zw.of [6,9,10,11,12,13,14]) 6 (zw.of [3,9,10,11,12,13,14]))) ?_
 refine uQ ?_
 generalize w2.drew=wd at *
 refine zm rfl rfl rfl rfl (fun K hK=>?_) (fun K hK=>?_)
 ·go_simp
  have hxn:=(Ext.refl wd).alloc (.cells #[.int .i64 (x:Nat)] 3)
  have bS:=Blk.new wd 3 #[.int .i64 (x:Nat)]
  replace hcd:=hcd.trans hxn
  clear hxn
  refine hK.out _ _ hcd ?_
  refine pT ?_
  generalize wd.alloc (.cells #[.int .i64 (x:Nat)] 3)=w30 at *
  generalize wd.heap.size=gs at *
  (refine zd rfl rfl rfl (fun K hK=>?_);go_simp)
  refine (zaK al hsm _).mono ?_
  rintro e w31 ⟨AL,cL,rfl,oL,hxn⟩
  replace hcd:=hcd.trans hxn
  replace bS:=bS.ext hxn
  clear hxn
  refine hK.out _ _ hcd ?_
  refine pT ?_
  exact yK16a1
 ·go_simp
  refine (zaK al hsm _).mono ?_
  rintro e w30 ⟨AL,cL,rfl,oL,hxn⟩
  replace hcd:=hcd.trans hxn
  clear hxn
  refine hK.out _ _ hcd ?_
  refine pT ?_
  (refine zd rfl rfl rfl (fun K hK=>?_);go_simp)
  have hxn:=(Ext.refl w30).alloc (.cells #[.int .i64 (x:Nat)] 3)
  have bS:=Blk.new w30 3 #[.int .i64 (x:Nat)]
  replace hcd:=hcd.trans hxn
  replace oL:=zh oL hxn
  clear hxn
  refine hK.out _ _ hcd ?_
  refine pT ?_
  generalize w30.alloc (.cells #[.int .i64 (x:Nat)] 3)=w31 at *
  generalize w30.heap.size=gs at *
  exact yK16a1
def Pc (a:Aut):Prop:=∀ (v:List Nat) (l:Nat),(∀ x∈v,x<6)→l<6→zbr a (zcL a 0 v)=false→zbr a (zcL a 0 (v++[l]))=false
def RetPc (w:World) (a:Aut) (e:Ending) (w':World):Prop:=∃ b:Bool,e=.returned (.bool b)∧(b=true→Pc a)∧Ext w w'
def PcI (t:Aut) (i k:Nat):Prop:=(∀ (j q:Nat) (r:List Int),j<i→t.next[j]?=some r→zbr t j=false→(q:Int)∈r→zbr t q=false)∧∀ (q k':Nat) (r:List Int),k'<k→t.next[i]?=some r→zbr t i=false→r[k']?=some (q:Int)→zbr t q=false
theorem PcI.next {t:Aut} {i k:Nat} {r:List Int}(h:PcI t i k)(hr:t.next[i]?=some r)(hk:r.length≤k):PcI t (i+1) 0:=by
 refine⟨fun j q r' hj hr' zim hq=>?_,fun q k' r' hk'=>by omega⟩
 rcases Nat.lt_or_eq_of_le (Nat.le_of_lt_succ hj) with h1|rfl
 ·exact h.1 j q r' h1 hr' zim hq
 ·rw [hr] at hr'
  obtain rfl:=Option.some.inj hr'
  obtain⟨k',hk'⟩:=List.getElem?_of_mem hq
  exact h.2 q k' r (by have:=(List.getElem?_eq_some_iff.1 hk').1;omega) hr zim hk'
theorem PcI.step {t:Aut} {i k q:Nat} {r:List Int}(h:PcI t i k)(hr:t.next[i]?=some r)(hq:r[k]?=some (q:Int))(ha:zbr t i=false→zbr t q=false):PcI t i (k+1):=by
 refine⟨h.1,fun q' k' r' hk' hr' zim hq'=>?_⟩
 rcases Nat.lt_or_eq_of_le (Nat.le_of_lt_succ hk') with h1|rfl
 ·exact h.2 q' k' r' h1 hr' zim hq'
 ·rw [hr] at hr'
  obtain rfl:=Option.some.inj hr'
  rw [hq] at hq'
  have e:q=q':=by have:=Option.some.inj hq';omega
  rw [← e]
  exact ha zim
theorem pc_of {a t:Aut} {xs:List Nat}(h:zeA a t xs)(hp:PcI t t.next.length 0):Pc a:=by
 intro v l hv hl zim
 have h1:=h.run _ v rfl hv
 rw [zcv]
 cases hb:a.al.toNat.testBit l
 ·unfold aGo
  rw [hb,if_neg (by decide)]
  exact zim
 ·have hi:=(List.getElem?_eq_some_iff.1 h1).1
  obtain⟨r,h2,-,h4⟩:=h.nb.done _ _ (by rw [h.len];exact hi) h1
  obtain⟨m,h5,h6⟩:=h4 (place a.al.toNat l) l (zeG hb 6 hl)
  have h7:=hp.1 (zcL t 0 v) m r (by rw [h.len];exact hi) h2 (by rw [h.acc_ h1];exact zim) (List.mem_of_getElem? h5)
  rw [h.acc_ h6] at h7
  exact h7
theorem impl_IsPrefixClosed (h:zG w lo hi B m B' m' a) :
  Calls Tryz.prog 40 #[.agg #[.int .i64 a.al,.slice B m d,.slice B' m' d']] w (RetPc w a):=by
 have HA:=za (fun W (hW:Ext w W)=>h.ext hW)
 have HV:=za (fun W (hW:Ext w W)=>zD _ _ _ _ d _ _ d' _ _ (h.ext hW))
 clear h
 have hx0:Ext w (w.alloc (.cells #[.int .i64 a.al,.slice B m d,.slice B' m' d'] 31)):=(Ext.refl _).alloc _
 have b1:=Blk.new w 31 #[.int .i64 a.al,.slice B m d,.slice B' m' d']
 cases hv:zi a
 ·rw [hv] at HV
  clear hv
  go_enter Tryz.func40,Tryz.ntmps40
  go_wp2_with (first
   |(go_at_call 96;with_reducible refine (HV.out _ hx0).mono ?_;rintro e w1 ⟨rfl,hx1⟩))
  go_ret
  exact⟨false,rfl,(fun h=>by cases h),hx0.trans hx1⟩
 ·rw [hv] at HV
  have Hv:=za hv
  clear hv
  go_enter Tryz.func40,Tryz.ntmps40
  go_upto_region 1 with fail
  generalize w.alloc (.cells #[.int .i64 a.al,.slice B m d,.slice B' m' d'] 31)=w0 at *
  have CA:=b1.cells
  have hww:=Ext.refl w0
  go_upto_region 4 with (first
   |(go_at_call 96;with_reducible refine (HV.out _ hx0).mono ?_;rintro e w1 ⟨rfl,hx1⟩;have hx01:=hx0.trans hx1)
   |(go_at_call 103;refine (impl_trim (HA.out _ hx01) Hv.out).mono ?_;rintro e w2 ⟨t,xs,A,n,c,A',n',c',rfl,hao,htr,hx2⟩))
  have Htr:=za htr
  have Ht:=za (htr.valid Hv.out)
  have hxa:=(Ext.refl w2).alloc (.cells #[.int .i64 t.al,.slice A n c,.slice A' n' c'] 31)
  have bt:=Blk.new w2 31 #[.int .i64 t.al,.slice A n c,.slice A' n' c']
  have hat:=hao.reads.ext hxa
  have hx3:=hx1.trans (hx2.trans hxa)
  clear hao htr hxa b1 HV HA hx1 hx2
  generalize w2.alloc (.cells #[.int .i64 t.al,.slice A n c,.slice A' n' c'] 31)=w3 at *
  generalize w2.heap.size=g3 at *
  have HT:=za (fun W (hW:Ext w3 W)=>hat.ext hW)
  have CT:=bt.cells
  have hnl:=za hat.n1
  have hnl':=za hat.n2
  have hacl:=za (zj Ht.out).2.2.1
  have hn12:n≤12:=by have:=hnl.out;have:=(zj Ht.out).2.1;omega
  have hnn:n=n':=by have:=hnl.out;have:=hnl'.out;have:=hacl.out;omega
  subst hnn
  have hrw:=za (zj Ht.out).2.2.2
  have hww3:=Ext.refl w3
  clear hat bt hww
  go_wp2_with fail
  go_loopw [16] (fun iv wr=>∃ i:Nat,iv=.int .i64 i∧i≤n∧Hid (PcI t i 0)∧Ext w3 wr) (fun iv _=>n - (intOf iv).toNat)
  case atStart=>exact⟨0,rfl,Nat.zero_le _,za ⟨fun j q r hj=>by omega,fun q k r hk=>by omega⟩,Ext.refl _⟩
  case round =>
   obtain⟨i,rfl,hi,hI,hxr⟩:=hrel
   by_cases hlt:i<n
   case neg =>
    obtain rfl:i=n:=by omega
    have zio:=za (pc_of Htr.out (by rw [← hnl.out];exact hI.out))
    go_wp2_with fail
    go_ret
    exact⟨true,rfl,fun _=>zio.out,hx0.trans (hx3.trans hxr)⟩
   case pos =>
   have hlt':(i:Int)<(n:Int):=by omega
   obtain⟨ad,Ak,ck,row,rfl,-,-,hrow,hcr,hrd⟩:=(HT.out wr hxr).1.row hlt
   have HR:=za (fun W (hW:Ext wr W)=>hrd.ext hW)
   have hr12:=(hrw.out i row hrow.out)
   have hr12':=za hr12.2
   have hrl:row.length≤6:=by rw [hr12.1];exact zC _ 6
   clear hr12 hrd
   go_wp2_with fail
   go_loopw [23] (fun kv wq=>∃ k:Nat,kv=.int .i64 k∧k≤row.length∧Hid (PcI t i k)∧Ext wr wq∧Ext w3 wq) (fun kv _=>row.length - (intOf kv).toNat)
   case atStart=>exact⟨0,rfl,Nat.zero_le _,hI,Ext.refl _,hxr⟩
   case round =>
    clear hI
    obtain⟨k,rfl,hk,hI,hxq,hxq3⟩:=hrel
    by_cases hkl:k<row.length
    case neg =>
     have hI2:=za (hI.out.next hrow.out (by omega))
     go_wp2_with fail
     go_roundw
     case rel=>exact⟨i+1,by go_num,by omega,hI2,hxq3⟩
     case measure=>simp [intOf];omega
    case pos =>
    have hkl':(k:Int)<(row.length:Int):=by omega
    obtain⟨ak,x,rfl,-,-,hx,cx⟩:=(HR.out _ hxq).int hkl
    have hxb:=hr12'.out x (List.mem_of_getElem? hx.out)
    obtain⟨q,hq⟩:∃ q:Nat,x=(q:Int):=⟨x.toNat,by omega⟩
    subst hq
    have hql:q<t.next.length:=by omega
    obtain⟨aa,bb,rfl,-,-,hb,cb⟩:=(HT.out _ hxq3).2.2.bool hlt
    have hbe:=za (show zbr t i=bb by unfold zbr;rw [List.getD_eq_getElem?_getD,hb.out];rfl)
    have hld:=za (zdF (x:=q) (d:=c) (d':=c') (HT.out _ hxq3) Ht.out hql)
    have hwq:=Ext.refl wr
    have CTr:∀ W,Ext wr W→∀ j,W.cell? ⟨g3,j,none⟩=#[Value.int .i64 t.al,.slice (some ad) n c,.slice (some aa) n c'][j]?:=fun W hW=>CT W (hxq3.trans hW)
    cases bb
    ·go_upto_if 37 with (first
      |(go_at_call 104;go_loud (refine (hld.out).mono ?_;rintro e w7 ⟨lb,rfl,hlb,hx7⟩)))
     cases lb
     ·have hI2:=za (hI.out.step hrow.out hx.out (fun _=>by simpa [zcL] using hlb rfl [] (by simp)))
      go_wp2_with fail
      go_roundw
      case rel=>exact⟨k+1,by go_num,by omega,hI2,hxq.trans hx7,hxq3.trans hx7⟩
      case measure=>simp [intOf];omega
     ·go_wp2_with fail
      go_ret
      exact⟨false,rfl,(fun h=>by cases h),hx0.trans (hx3.trans (hxq3.trans hx7))⟩
    ·have hI2:=za (hI.out.step hrow.out hx.out (fun h=>by rw [hbe.out] at h;cases h))
     go_wp2_with fail
     go_roundw
     case rel=>exact⟨k+1,by go_num,by omega,hI2,hxq,hxq3⟩
     case measure=>simp [intOf];omega
end
theorem letS_data (l:Nat):(zeo l).data.toList=[UInt8.ofNat (97+l)]:=by
 unfold zeo
 rw [strOfNums_data]
 rfl
end Go.Proofs.YtmjaepibdpfblaaGreatDoor
namespace Go.Proofs.YtmjaepibdpfblaaGreatDoor
open Go Go.ChangeShapes Go.WideShapes Go.ChangeAt Go.RowKit Go.Deep
def BytesAt (w:World) (A:Option Addr) (n c:Nat):Prop:=Bytes w A n∧n≤9223372036854775807∧n≤c∧c≤9223372036854775807
theorem arg_bytes {H:Type} {enc:TypeId × Value→H} {w:World} {spare:Nat→Bool} {held:Bool} {r:Reach} {b0:Nat} {v:Value} {d:DataW H} {p:List MemPlace}(hv:Value.okWide Tryz.prog w r b0 62 v)(h:DataW.Trod enc Tryz.prog w 0 spare held 62 v d p) :
  ∃ (A:Option Addr) (n c:Nat),v=.slice A n c∧BytesAt w A n c:=by
 obtain⟨a,l,k,rfl⟩:=okWide_slice Tryz.underlying62 hv
 obtain⟨fuel,hf⟩:=h
 rcases open_slice1 Tryz.underlying62 (by kernel_rfl) hf with ⟨h0,_⟩|⟨ad,len,cap,m,n,V,D,Pl,h0,hb,hl,hm,hmm,_,hx⟩
 ·simp [Value.cells] at h0
  obtain⟨rfl,rfl,rfl⟩:=h0
  exact⟨_,_,_,rfl,fun h=>absurd h (by omega),by omega,Nat.le_refl _,by omega⟩
 ·simp [Value.cells] at h0
  obtain⟨rfl,rfl,rfl⟩:=h0
  unfold maxLen at hm
  have hlm:l≤m:=by rw [hmm];split<;>omega
  refine⟨_,_,_,rfl,fun hn=>?_,by omega,hl,by omega⟩
  have h1:=(hx 0 (by omega)).1
  have hs:=zcO h1
  have hlt:=World.block_lt_of_cell? w _ h1
  rw [zhd] at hlt
  refine⟨ad.block,ad.off,by rw [← hs],hlt,fun j hj=>?_⟩
  obtain⟨h2,h3⟩:=hx j (by omega)
  obtain⟨b,hb1,_,hb3⟩:=DataW.trod_int Tryz.underlying5 h3
  have hV:V j=.int .u8 b:=by simpa using hb1
  rw [hV,hs,zT] at h2
  have hw:0≤b∧b<256:=by
   simp only [Lit.wf,Bool.and_eq_true,decide_eq_true_eq] at hb3
   have h4:IntKind.u8.min=0:=rfl
   have h5:IntKind.u8.max=255:=rfl
   omega
  refine⟨b.toNat,by omega,?_⟩
  rw [h2]
  have:((b.toNat:Nat):Int)=b:=by omega
  rw [this]
end Go.Proofs.YtmjaepibdpfblaaGreatDoor
