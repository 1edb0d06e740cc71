/- Plain: slice -/
import Derived.Test.YtmjaepibdpfblaaGreatDoorK04
import Derived.Test.YtmjaepibdpfblaaGreatDoorK01
import Derived.Test.YtmjaepibdpfblaaGreatDoorK02
import Derived.Deep.DeepCutAuto
import Derived.Deep.CutBlock
import Derived.Shelf.RegionOpenPlain
import Derived.Deep.LoopGhost
import Derived.Sort.WalkB12
import Derived.Lib.SlicesMore
import Derived.Laws.BytesArg
namespace Go.Proofs.YtmjaepibdpfblaaGreatDoor
open Go Go.RowKit
set_option maxHeartbeats 4000000
set_option maxRecDepth 100000
def ALAt (w:World) (lo hi:Nat) (A:Option Addr) (n:Nat) (us:List Aut):Prop:=
 n=us.length∧∃ cells,Reads w lo hi 3 A n cells∧∀ (k:Nat) (a:Aut),us[k]?=some a→∃ (B:Option Addr) (m c:Nat) (B':Option Addr) (m' c':Nat),cells[k*3]?=some (.int .i64 a.al)∧cells[k*3+1]?=some (.slice B m c)∧cells[k*3+2]?=some (.slice B' m' c')∧zG w lo hi B m B' m' a
section
variable {w w':World} {lo hi n k:Nat} {A:Option Addr} {us:List Aut}
theorem ALAt.ext (h:ALAt w lo hi A n us)(hb:Ext w w'):ALAt w' lo hi A n us:=by
 obtain⟨e,cells,hr,hx⟩:=h
 refine⟨e,cells,hr.ext hb,fun k s hs=>?_⟩
 obtain⟨B,m,c,B',m',c',h0,h1,h2,h3⟩:=hx k s hs
 exact⟨B,m,c,B',m',c',h0,h1,h2,h3.ext hb⟩
theorem ALAt.len (h:ALAt w lo hi A n us):n≤9223372036854775807:=by
 obtain⟨_,cells,hr,_⟩:=h
 exact hr.len
theorem ALAt.aut (h:ALAt w lo hi A n us)(hk:k<n):∃ b o a B m c B' m' c',A=some ⟨b,o,none⟩∧Hid (us[k]?=some a)∧w.cell? ⟨b,o+k*3,none⟩=some (.int .i64 a.al)∧w.cell? ⟨b,o+k*3+1,none⟩=some (.slice B m c)∧w.cell? ⟨b,o+k*3+2,none⟩=some (.slice B' m' c')∧zG w lo hi B m B' m' a:=by
 obtain⟨e,cells,hr,hx⟩:=h
 have h0:us[0]?=some (us[0]'(by omega)):=List.getElem?_eq_getElem _
 obtain⟨_,_,_,_,_,_,z0,_⟩:=hx 0 _ h0
 rw [Nat.zero_mul] at z0
 obtain⟨b,o,rfl,hl,hb,hc⟩:=zho hr (by omega) z0
 have hs:us[k]?=some (us[k]'(by omega)):=List.getElem?_eq_getElem _
 obtain⟨B,m,c,B',m',c',h0,h1,h2,h3⟩:=hx k _ hs
 exact⟨b,o,_,B,m,c,B',m',c',rfl,hs,hc _ _ h0,by rw [Nat.add_assoc];exact hc _ _ h1,by rw [Nat.add_assoc];exact hc _ _ h2,h3⟩
end
structure zeR (w:World) (PA:Option Addr) (pn:Nat) (AA:Option Addr) (an:Nat) (ss:List Sys) (us:List Aut):Prop where
 sys:∃ lo hi,zey w lo hi PA pn ss
 aut:∃ lo hi,ALAt w lo hi AA an us
theorem zeR.ext {w w':World} {PA AA:Option Addr} {pn an:Nat} {ss:List Sys} {us:List Aut}(h:zeR w PA pn AA an ss us)(hx:Ext w w'):zeR w' PA pn AA an ss us:=by
 obtain⟨⟨lo,hi,h1⟩,lo',hi',h2⟩:=h
 exact⟨⟨lo,hi,h1.ext hx⟩,lo',hi',h2.ext hx⟩
def zbc (ss:List Sys) (us:List Aut):List Mem:=ss.map zeI++us.map zdB
def szs (ss:List Sys) (us:List Aut):List Nat:=ss.map (fun s=>s.st.toNat)++us.map fun a=>a.next.length
theorem zfc (ss:List Sys) (us:List Aut):(zbc ss us).map Prod.fst=szs ss us:=by
 simp [zbc,szs,zeI,zdB,Function.comp_def]
structure zdd (ss:List Sys) (us:List Aut):Prop where
 sys:∀ s∈ss,zl s=true
 aut:∀ a∈us,zi a=true
 few:ss.length≤3
 few':us.length≤2
theorem zcX {s:Sys}(h:zl s=true):Sml s:=by
 obtain⟨h1,h2,h3,h4⟩:=valid_iff.1 h
 obtain⟨p,hp,_,_,hf⟩:=zbP h
 refine⟨h2.1,h2.2,?_,h1.1,h1.2⟩
 rw [hp]
 exact hf
theorem zdd.ok {ss:List Sys} {us:List Aut}(h:zdd ss us):∀ m∈zbc ss us,MemOk m:=by
 intro m hm
 rcases List.mem_append.1 hm with h1|h1
 ·obtain⟨s,hs,rfl⟩:=List.mem_map.1 h1
  exact zfv (zcX (h.sys s hs))
 ·obtain⟨a,ha,rfl⟩:=List.mem_map.1 h1
  exact zde (h.aut a ha)
theorem prodS_le {l:List Nat} {b:Nat}(h:∀ x∈l,x≤b):zaz l≤b ^ l.length:=by
 induction l with
 |nil=>simp [zaz]
 |cons x r ih =>
  rw [zaz,List.length_cons,Nat.pow_succ,Nat.mul_comm]
  exact Nat.mul_le_mul (ih fun y hy=>h y (by simp [hy])) (h x (by simp))
theorem zdd.le16 {ss:List Sys} {us:List Aut}(h:zdd ss us):∀ x∈szs ss us,1≤x∧x≤16:=by
 intro x hx
 rcases List.mem_append.1 hx with h1|h1
 ·obtain⟨s,hs,rfl⟩:=List.mem_map.1 h1
  have hh:=zcX (h.sys s hs)
  have:=hh.1;have:=hh.2.1
  omega
 ·obtain⟨a,ha,rfl⟩:=List.mem_map.1 h1
  have:=(zj (h.aut a ha)).2.1
  omega
theorem zdd.len {ss:List Sys} {us:List Aut}(h:zdd ss us):(szs ss us).length≤5:=by
 have:=h.few;have:=h.few'
 simp [szs];omega
theorem zdd.total {ss:List Sys} {us:List Aut}(h:zdd ss us) (l:List Nat)(hl:l.Sublist (szs ss us)):1≤zaz l∧zaz l≤1048576:=by
 refine⟨prodS_pos fun x hx=>(h.le16 x (hl.subset hx)).1,?_⟩
 have h1:=prodS_le (l:=l) (b:=16) fun x hx=>(h.le16 x (hl.subset hx)).2
 have h2:=hl.length_le
 have h3:=h.len
 calc zaz l≤16 ^ l.length:=h1
  _≤16 ^ 5:=Nat.pow_le_pow_right (by omega) (by omega)
  _=1048576:=by decide
theorem place_succ (a k:Nat):place a (k+1)=place a k+if a.testBit k then 1 else 0:=by
 unfold place
 rw [zbh,List.length_append]
 cases a.testBit k<;>simp
theorem spec_l1Place (a l:Nat)(ha:Sm a)(hl:l≤6) (w:World) :
  Calls Tryz.prog 278 #[.int .i64 a,.int .i64 l] w fun e w'=>e=.returned (.int .i64 (place a l:Nat))∧w=w':=by
 go_enter Tryz.func278,Tryz.ntmps278
 go_wp2
 go_loop [5,6] (fun v i=>∃ k y:Nat,k≤l∧i=.int .i64 k∧v=.int .i64 y∧y≤k∧Hid (y=place a k)) (fun _ i=>l - (intOf i).toNat)
 case atStart=>exact⟨0,0,Nat.zero_le _,rfl,rfl,Nat.le_refl _,rfl⟩
 case round =>
  obtain⟨k,y,hk,rfl,rfl,hy,hyo⟩:=hrel
  by_cases hlt:k<l
  ·cases hb:a.testBit k
   all_goals
    have Hb:=za hb
    have Hs:=za (place_succ a k)
    clear hb
    go_wp2_with (go_at_call 144;refine (zat a k ha _ (by omega)).mono ?_;rw [Hb.out];rintro e w' ⟨rfl,rfl⟩)
    go_round
    case rel=>first|exact⟨k+1,y,by omega,by go_num,rfl,by omega,by unfold Hid;rw [Hs.out,Hb.out,← hyo.out];rfl⟩|exact⟨k+1,y+1,by omega,by go_num,by go_num,by omega,by unfold Hid;rw [Hs.out,Hb.out,← hyo.out];rfl⟩
    case measure=>simp [intOf];omega
  ·obtain rfl:l=k:=by omega
   go_wp2
   go_ret
   exact⟨zB (by rw [hyo.out]),rfl⟩
theorem zda {lo hi:Nat} {B:Option Addr} {m d:Nat} {B':Option Addr} {m' d':Nat} {a:Aut} {q l:Nat} {w:World}(h:zG w lo hi B m B' m' a)(hv:zi a=true)(hq:q<a.next.length)(hl:l<6) :
  Calls Tryz.prog 230 #[.agg #[.int .i64 a.al,.slice B m d,.slice B' m' d'],.int .i64 q,.int .i64 l] w fun e w'=>e=.returned (.int .i64 (aGo a q l:Nat))∧Ext w w':=by
 obtain⟨⟨al0,al1⟩,_,_,hrows⟩:=zj hv
 obtain⟨al,hal⟩:∃ al:Nat,Hid (a.al=al):=⟨a.al.toNat,by unfold Hid;omega⟩
 have hsm:Sm al:=by have:=hal.out;unfold Sm;omega
 have htn:a.al.toNat=al:=by have:=hal.out;omega
 have Hn:=za h.n1
 have HN:=za (fun W (hW:Ext w W)=>h.1.ext hW)
 have hqm:q<m:=by rw [h.n1];exact hq
 have hG:=za (show aGo a q l=if al.testBit l then ((a.next.getD q []).getD (place al l) 0).toNat else q by unfold aGo;rw [htn])
 have hrow:a.next[q]?=some a.next[q]:=List.getElem?_eq_getElem hq
 obtain⟨hr1,hr2⟩:=hrows q _ hrow
 rw [htn] at hr1
 have Hrow:=za hrow
 have Hr2:=za hr2
 have Hr1:=za hr1
 have hlm:=h.1.len
 clear hr1 hr2 hrow htn hrows h
 generalize a.next[q]=row at *
 cases hb:al.testBit l
 ·have Hb:=za hb
  clear hb
  rw [hal.out]
  clear al0 al1
  go_enter Tryz.func230,Tryz.ntmps230
  go_wp2_with (go_at_call 144;refine (zat al l hsm _ (by omega)).mono ?_;rw [Hb.out];rintro e w' ⟨rfl,rfl⟩)
  go_ret
  exact⟨zB (by rw [hG.out,Hb.out];rfl),(Ext.refl _).alloc _⟩
 ·have hp:=za (place_lt hl hb)
  have Hb:=za hb
  clear hb
  rw [hal.out]
  clear al0 al1
  have hpr:place al l<row.length:=by rw [Hr1.out];exact hp.out
  obtain⟨x,hx⟩:∃ x,Hid (row[place al l]?=some x):=⟨_,List.getElem?_eq_getElem hpr⟩
  obtain⟨x0,x1⟩:=Hr2.out x (List.mem_of_getElem? hx.out)
  obtain⟨y,rfl⟩:∃ y:Nat,x=y:=⟨x.toNat,by omega⟩
  have zio:=za (show aGo a q l=y by rw [hG.out,Hb.out,if_pos rfl];simp only [List.getD_eq_getElem?_getD,Hrow.out,Option.getD_some,hx.out];rfl)
  go_enter Tryz.func230,Tryz.ntmps230
  go_wp2_with (go_at_call 144;refine (zat al l hsm _ (by omega)).mono ?_;rw [Hb.out];rintro e w' ⟨rfl,rfl⟩)
  have hw1:Ext w (w.alloc (.cells #[.int .i64 al,.slice B m d,.slice B' m' d'] 31)):=(Ext.refl w).alloc _
  have hb1:=Blk.new w 31 #[.int .i64 al,.slice B m d,.slice B' m' d']
  generalize w.alloc (.cells #[.int .i64 al,.slice B m d,.slice B' m' d'] 31)=w1 at *
  obtain⟨ad,Ak,ck,l',rfl,_,_,hl',hc,hrd⟩:=(HN.out w1 hw1).row hqm
  obtain rfl:row=l':=by have h1:=Hrow.out;have h2:=hl'.out;rw [h1] at h2;exact Option.some.inj h2
  have hpc:∀ W,Ext w1 W→∃ ad',Ak=some ad'∧W.cell? (ad'.add (place al l))=some (.int .i64 (y:Nat)):=fun W hW=>by
   obtain⟨ad',z,e,_,_,hz,hcz⟩:=(hrd.ext hW).int hpr
   have h1:=hx.out;have h2:=hz.out
   rw [h1] at h2
   obtain rfl:=Option.some.inj h2
   exact⟨ad',e,hcz⟩
  obtain⟨ad',rfl,_⟩:=hpc w1 (Ext.refl _)
  have c2:∀ W,Ext w1 W→W.cell? (ad'.add (place al l))=some (.int .i64 (y:Nat)):=fun W hW=>by
   obtain⟨ad2,e,h⟩:=hpc W hW
   injection e with e
   subst e
   exact h
  have c1:∀ W,Ext w1 W→W.cell? (ad.add q)=some (.slice (some ad') row.length ck):=fun W hW=>hW.cell_some hc
  have c0:=hb1.cells
  clear hpc hc hrd
  have hpi:(place al l:Int)<(row.length:Int):=by omega
  have hrr:=Ext.refl w1
  generalize hpp:place al l=pl at *
  have Hpp:=za hpp
  clear hpp
  go_wp2_with fail
  go_region_held3 (fun W=>Ext w1 W) (first|assumption|(refine Ext.drew ?_;assumption)|(refine Ext.trans ?_ (by assumption);assumption)|(refine Ext.trans ?_ (by assumption);refine Ext.drew ?_;assumption)) ((go_at_call 278;refine (spec_l1Place al l hsm (by omega) _).mono ?_;rw [Hpp.out];rintro e w' ⟨rfl,rfl⟩))
  go_wp2
  go_ret
  exact⟨zB (by rw [zio.out]),hw1.trans (by assumption)⟩
abbrev Lay (α:Type):=World→Nat→Nat→Value→α→Prop
structure Lay.Ok {α:Type} (P:Lay α):Prop where
 frm:∀ {S:Nat→Prop} {W W':World} {lo hi:Nat} {r:Value} {x:α},P W lo hi r x→Frm S W W'→(∀ k,lo≤k→k<hi→¬ S k)→P W' lo hi r x
 more:∀ {W:World} {lo hi lo' hi':Nat} {r:Value} {x:α},P W lo hi r x→lo'≤lo→hi≤hi'→P W lo' hi' r x
def zbp:Lay Nat:=fun _ _ _ r n=>r=.int .i64 (n:Nat)
theorem zbp.ok:Lay.Ok zbp:=⟨fun h _ _=>h,fun h _ _=>h⟩
def Lst {α:Type} (P:Lay α) (W:World) (lo hi:Nat) (A:Option Addr) (xs:List α):Prop:=
 ∃ rows,Reads W lo hi 1 A xs.length rows∧∀ (i:Nat) (r:Value) (x:α),rows[i]?=some r→xs[i]?=some x→P W lo hi r x
def LstP {α:Type} (P:Lay α):Lay (List α):=fun W lo hi r xs=>∃ A c,r=.slice A xs.length c∧Lst P W lo hi A xs
section
variable {α:Type} {P:Lay α} {W W':World} {lo hi:Nat} {A:Option Addr} {xs:List α}
theorem Lst.frm (hP:Lay.Ok P) {S:Nat→Prop}(h:Lst P W lo hi A xs)(hx:Frm S W W')(hS:∀ k,lo≤k→k<hi→¬ S k):Lst P W' lo hi A xs:=by
 obtain⟨rows,h1,h2⟩:=h
 exact⟨rows,h1.frm hx hS,fun i r x hr hx'=>hP.frm (h2 i r x hr hx') hx hS⟩
theorem Lst.ext (hP:Lay.Ok P)(h:Lst P W lo hi A xs)(hx:Ext W W'):Lst P W' lo hi A xs:=h.frm hP hx (fun _ _ _ h=>h)
theorem Lst.more (hP:Lay.Ok P) {lo' hi':Nat}(h:Lst P W lo hi A xs)(h1:lo'≤lo)(h2:hi≤hi'):Lst P W lo' hi' A xs:=by
 obtain⟨rows,h3,h4⟩:=h
 exact⟨rows,h3.more h1 h2,fun i r x hr hx'=>hP.more (h4 i r x hr hx') h1 h2⟩
theorem LstP.ok (hP:Lay.Ok P):Lay.Ok (LstP P):=by
 refine⟨fun h hx hS=>?_,fun h h1 h2=>?_⟩
 ·obtain⟨A,c,e,h⟩:=h
  exact⟨A,c,e,h.frm hP hx hS⟩
 ·obtain⟨A,c,e,h⟩:=h
  exact⟨A,c,e,h.more hP h1 h2⟩
theorem Lst.len (h:Lst P W lo hi A xs):xs.length≤9223372036854775807:=by
 obtain⟨rows,h1,_⟩:=h
 exact h1.len
theorem Lst.get {k:Nat}(h:Lst P W lo hi A xs)(hk:k<xs.length):∃ b o r x,A=some ⟨b,o,none⟩∧lo≤b∧b<hi∧Hid (xs[k]?=some x)∧W.cell? ⟨b,o+k,none⟩=some r∧P W lo hi r x:=by
 obtain⟨rows,h1,h2⟩:=h
 have hl:=h1.length
 rw [Nat.mul_one] at hl
 obtain⟨ad,e,h3,h4,h5⟩:=h1.at_ hk
 have hr0:rows[0]?=some (rows[0]'(by omega)):=List.getElem?_eq_getElem _
 have hrk:rows[k]?=some (rows[k]'(by omega)):=List.getElem?_eq_getElem _
 have hs:=zcO (h5 0 _ hr0)
 have hc:=h5 k _ hrk
 rw [hs,zT] at hc
 exact⟨ad.block,ad.off,_,_,by rw [e,← hs],h3,h4,List.getElem?_eq_getElem hk,hc,h2 k _ _ hrk (List.getElem?_eq_getElem hk)⟩
theorem Lst.get2 {k b o:Nat} {x:α}(h:Lst P W lo hi (some ⟨b,o,none⟩) xs)(hx:xs[k]?=some x):∃ r,W.cell? ⟨b,o+k,none⟩=some r∧P W lo hi r x:=by
 obtain⟨b',o',r,y,e,_,_,hy,hc,hp⟩:=h.get (List.getElem?_eq_some_iff.1 hx).1
 injection e with e
 injection e with e1 e2
 subst e1;subst e2
 rw [hx] at hy
 have:=Option.some.inj hy.out
 subst this
 exact⟨r,hc,hp⟩
end
theorem Lst.of_nats {W:World} {lo hi:Nat} {A:Option Addr} {xs:List Nat}(h:Reads W lo hi 1 A xs.length (zaq xs)):Lst zbp W lo hi A xs:=⟨zaq xs,h,fun i r x hr hx=>by
 simp only [zaq,List.getElem?_map,hx,Option.map_some] at hr
 exact (Option.some.inj hr).symm⟩
theorem Lst.own_nats {W:World} {base c:Nat} {A:Option Addr} {xs:List Nat}(h:W.ownsRow base 3 1 (.slice A xs.length c) xs.length (zaq xs)):Lst zbp W base W.heap.size A xs:=Lst.of_nats (Reads.of_own h)
theorem Lst.num {W:World} {lo hi k:Nat} {A:Option Addr} {xs:List Nat}(h:Lst zbp W lo hi A xs)(hk:k<xs.length):∃ b o x,A=some ⟨b,o,none⟩∧lo≤b∧b<hi∧Hid (xs[k]?=some x)∧W.cell? ⟨b,o+k,none⟩=some (.int .i64 (x:Nat)):=by
 obtain⟨b,o,r,x,e,h1,h2,h3,h4,h5⟩:=h.get hk
 exact⟨b,o,x,e,h1,h2,h3,by rw [h4,h5]⟩
theorem Lst.num2 {W:World} {lo hi k b o x:Nat} {xs:List Nat}(h:Lst zbp W lo hi (some ⟨b,o,none⟩) xs)(hx:xs[k]?=some x):W.cell? ⟨b,o+k,none⟩=some (.int .i64 (x:Nat)):=by
 obtain⟨r,h1,h2⟩:=h.get2 hx
 rw [h1,h2]
def Grl {α:Type} (P:Lay α) (W:World) (base:Nat) (e:TypeId) (v:Value) (xs:List α):Prop:=
 ∃ rows:List Value,W.ownsRow base e 1 v xs.length rows∧∀ (i:Nat) (r:Value) (x:α),rows[i]?=some r→xs[i]?=some x→∃ lo hi,base≤lo∧hi≤W.heap.size∧P W lo hi r x∧∀ b,v.ownBlock=some b→b<lo∨hi≤b
section
variable {α:Type} {P:Lay α} {W W':World} {base:Nat} {e:TypeId} {v:Value} {xs:List α}
theorem Grl.form (h:Grl P W base e v xs):∃ A c,v=.slice A xs.length c:=by
 obtain⟨rows,h1,_⟩:=h
 exact zg h1
theorem Grl.lst (hP:Lay.Ok P) {A:Option Addr} {n c:Nat}(h:Grl P W base e (.slice A n c) xs):Lst P W base W.heap.size A xs:=by
 obtain⟨rows,h1,h2⟩:=h
 have hn:n=xs.length:=by
  obtain⟨A',c',hh⟩:=zg h1
  injection hh
 subst hn
 refine⟨rows,Reads.of_own h1,fun i r x hr hx=>?_⟩
 obtain⟨lo,hi,h3,h4,h5,_⟩:=h2 i r x hr hx
 exact hP.more h5 h3 h4
theorem Grl.push (hP:Lay.Ok P) {W1:World} {rows:List Value} {v' r:Value} {x:α} {lo hi:Nat}(h2:∀ (i:Nat) (r:Value) (x:α),rows[i]?=some r→xs[i]?=some x→∃ lo hi,base≤lo∧hi≤W.heap.size∧P W lo hi r x∧∀ b,v.ownBlock=some b→b<lo∨hi≤b)(h1:W.ownsRow base e 1 v xs.length rows)
  (hx:Ext W W1) (hr:P W1 lo hi r x) (hlo:W.heap.size≤lo) (hb:base≤lo) (hhi:hi≤W1.heap.size) (zil:W'.ownsRow base e 1 v' (xs.length+1) (rows++[r])) (hg:W1.grownBy W' v.ownBlock) (hat:v'.ownBlock=v.ownBlock∨v'.ownBlock=some (W1.heap.size+1)):Grl P W' base e v' (xs++[x]):=by
 have hlen:rows.length=xs.length:=by have:=zdK h1;omega
 have hfr:Frm (fun k=>v.ownBlock=some k) W1 W':=Frm.of_grown hg
 refine⟨rows++[r],by rw [List.length_append,List.length_singleton];exact zil,fun i s y hs hy=>?_⟩
 rcases Nat.lt_trichotomy i rows.length with hi' | hi' | hi'
 ·rw [List.getElem?_append_left hi'] at hs
  rw [List.getElem?_append_left (by omega)] at hy
  obtain⟨lo',hi'',h3,h4,h5,h6⟩:=h2 i s y hs hy
  refine⟨lo',hi'',h3,Nat.le_trans h4 (Nat.le_trans hx.size hfr.size),hP.frm (hP.frm h5 hx (fun _ _ _ h=>h)) hfr (fun k hk1 hk2 hk=>by have:=h6 k hk;omega),fun b hb'=>?_⟩
  rcases hat with h7|h7
  ·rw [h7] at hb';exact h6 b hb'
  ·rw [h7] at hb'
   have:=Option.some.inj hb'
   have:=hx.size
   omega
 ·rw [List.getElem?_append_right (by omega),hi',Nat.sub_self] at hs
  rw [List.getElem?_append_right (by omega),hi',hlen,Nat.sub_self] at hy
  simp at hs hy
  subst hs;subst hy
  refine⟨lo,hi,hb,Nat.le_trans hhi hfr.size,hP.frm hr hfr (fun k hk1 hk2 hk=>by have:=(h1.lt k hk).2;omega),fun b hb'=>?_⟩
  rcases hat with h7|h7
  ·rw [h7] at hb'
   have:=(h1.lt b hb').2
   omega
  ·rw [h7] at hb'
   have:=Option.some.inj hb'
   omega
 ·rw [List.getElem?_eq_none (by simp;omega)] at hs;cases hs
theorem Grl.push2 (hP:Lay.Ok P) {W1:World} {rows:List Value} {r:Value} {x:α} {lo hi g cap:Nat}(h2:∀ (i:Nat) (r:Value) (x:α),rows[i]?=some r→xs[i]?=some x→∃ lo hi,base≤lo∧hi≤W.heap.size∧P W lo hi r x∧∀ b,v.ownBlock=some b→b<lo∨hi≤b)(h1:W.ownsRow base e 1 v xs.length rows)
  (hx:Ext W W1) (hr:P W1 lo hi r x) (hlo:W.heap.size≤lo) (hb:base≤lo) (hhi:hi≤W1.heap.size) (zil:W'.ownsRow base e 1 (.slice (some ⟨g,0,none⟩) (xs.length+1) cap) (xs.length+1) (rows++[r])) (hg:W1.grownBy W' v.ownBlock) (hat:v.ownBlock=some g∨g=W1.heap.size+1):Grl P W' base e (.slice (some ⟨g,0,none⟩) (xs.length+1) cap) (xs++[x]):=
 Grl.push hP h2 h1 hx hr hlo hb hhi zil hg (by
  rcases hat with h|h
  ·exact Or.inl h.symm
  ·exact Or.inr (by rw [h];rfl))
end
theorem info_pmov:(Tryz.prog.info? 243).map (fun i=>(i.zero,i.size,i.bytes))=some (some (.pointer none),1,8):=by kernel_rfl
def ptrs (bs:List Nat):List Value:=bs.map fun b=>.pointer (some ⟨b,0,none⟩)
def MovL (w:World) (bs:List Nat) (ss:List Sys):Prop:=bs.length=ss.length∧∀ (i b:Nat) (s:Sys),bs[i]?=some b→ss[i]?=some s→MovB w b s.edges
theorem MovL.ext {w w':World} {bs:List Nat} {ss:List Sys}(h:MovL w bs ss)(hx:Ext w w'):MovL w' bs ss:=⟨h.1,fun i b s hb hs=>(h.2 i b s hb hs).ext hx⟩
theorem MovL.snoc {w w':World} {bs:List Nat} {ss:List Sys} {b:Nat} {s:Sys}(h:MovL w bs ss)(hx:Ext w w')(hb:MovB w' b s.edges):MovL w' (bs++[b]) (ss++[s]):=by
 have hl:=h.1
 refine⟨by simp [hl],fun i b' s' hb' hs'=>?_⟩
 rcases Nat.lt_trichotomy i bs.length with hi|hi|hi
 ·rw [List.getElem?_append_left hi] at hb'
  rw [List.getElem?_append_left (by omega)] at hs'
  exact (h.2 i b' s' hb' hs').ext hx
 ·rw [List.getElem?_append_right (by omega),hi,Nat.sub_self] at hb'
  rw [List.getElem?_append_right (by omega),hi,hl,Nat.sub_self] at hs'
  simp at hb' hs'
  subst hb';subst hs'
  exact hb
 ·rw [List.getElem?_eq_none (by simp;omega)] at hb'
  cases hb'
theorem MovL.frm {S:Nat→Prop} {w w':World} {bs:List Nat} {ss:List Sys}(h:MovL w bs ss)(hx:Frm S w w')(hS:∀ (b:Nat) (cs:Array Value),Blk w b 285 cs→¬ S b):MovL w' bs ss:=
 ⟨h.1,fun i b s hb hs=>by
  obtain⟨cs,hB,hc⟩:=h.2 i b s hb hs
  exact⟨cs,hB.frm hx (hS b cs hB),hc⟩⟩
structure PtAt (w:World) (lo hi:Nat) (A:Option Addr) (k lo' hi':Nat) (M:Option Addr) (ss:List Sys):Prop where
 sys:zey w lo hi A k ss
 mov:∃ bs,Reads w lo' hi' 1 M k (ptrs bs)∧MovL w bs ss
theorem PtAt.ext {w w':World} {lo hi k lo' hi':Nat} {A M:Option Addr} {ss:List Sys}(h:PtAt w lo hi A k lo' hi' M ss)(hx:Ext w w'):PtAt w' lo hi A k lo' hi' M ss:=by
 obtain⟨bs,hr,hb⟩:=h.mov
 exact⟨h.sys.ext hx,bs,hr.ext hx,hb.ext hx⟩
structure Grp (w0 W:World) (G:Nat) (a v:Value) (bs:List Nat) (ss:List Sys):Prop where
 blk:Blk W G 222 #[a,v]
 own:W.ownsRow w0.heap.size 243 1 v bs.length (ptrs bs)
 mov:MovL W bs ss
 ext:Ext w0 W
 hG:w0.heap.size≤G
theorem Grp.ext_ {w0 W W':World} {G:Nat} {a v:Value} {bs:List Nat} {ss:List Sys}(h:Grp w0 W G a v bs ss)(hb:Ext W W'):Grp w0 W' G a v bs ss:=⟨h.blk.ext hb,zh h.own hb,h.mov.ext hb,h.ext.trans hb,h.hG⟩
theorem zdX {w:World} {base:Nat} {e t:TypeId} {size n G:Nat} {v:Value} {xs:List Value} {cs:Array Value}(h:w.ownsRow base e size v n xs)(hB:Blk w G t cs)(hne:e≠t) {b:Nat}(hv:v.ownBlock=some b):b≠G:=by
 rintro rfl
 rcases h.2 with ⟨rfl,_⟩|⟨g,cap,cur,rfl,_,hh,_⟩
 ·simp [Value.ownBlock] at hv
 ·have hg:g=b:=by simpa [Value.ownBlock] using hv
  subst hg
  unfold Blk at hB
  rw [hh] at hB
  injection hB with hB
  injection hB with _ ht
  exact absurd ht hne
theorem Grp.push {w0 W W':World} {G:Nat} {a v:Value} {bs:List Nat} {ss:List Sys} {b g cap:Nat} {s:Sys}(h:Grp w0 W G a v bs ss)(hb:MovB W b s.edges)
  (zil:W'.ownsRow w0.heap.size 243 1 (.slice (some ⟨g,0,none⟩) (bs.length+1) cap) (bs.length+1) (ptrs bs++[.pointer (some ⟨b,0,none⟩)]))
  (hg:W.grownBy W' v.ownBlock) (hat:v.ownBlock=some g∨g=W.heap.size+1) :
  Hid (W'.cell? ⟨G,1,none⟩=some v)∧W'.frozen? ⟨G,1,none⟩=false∧Grp w0 (W'.setCell ⟨G,1,none⟩ (.slice (some ⟨g,0,none⟩) (bs.length+1) cap)) G a (.slice (some ⟨g,0,none⟩) (bs.length+1) cap) (bs++[b]) (ss++[s]):=by
 have hB:Blk W' G 222 #[a,v]:=(hg.block G h.blk.lt (fun e=>zdX h.own h.blk (by decide) e.symm rfl)).trans h.blk
 have hgG:g≠G:=by
  rcases hat with h1|h1
  ·exact zdX h.own h.blk (by decide) h1
  ·have:=h.blk.lt;omega
 have hx:Ext w0 W':=h.ext.grown hg (fun k hk=>(h.own.lt k hk).1)
 have hset:=Frm.setCell W' G 1 (.slice (some ⟨g,0,none⟩) (bs.length+1) cap)
 have hfr:Frm (fun k=>v.ownBlock=some k) W W':=Frm.of_grown hg
 have hm1:MovL W' (bs++[b]) (ss++[s]):=(h.mov.snoc (Ext.refl W) hb).frm hfr (fun c cs hc hS=>zdX h.own hc (by decide) hS rfl)
 refine⟨hB.cell 1,hB.frozen 1,⟨by simpa using hB.set_ 1 _,?_,hm1.frm hset (fun c cs hc hS=>?_),hx.setCell (p:=⟨G,1,none⟩) h.hG _,h.hG⟩⟩
 ·rw [List.length_append,List.length_singleton,show ptrs (bs++[b])=ptrs bs++[.pointer (some ⟨b,0,none⟩)] by simp [ptrs]]
  exact zf zil hset (fun c hv hS=>by
   have:g=c:=by simpa [Value.ownBlock] using hv
   omega)
 ·subst hS
  unfold Blk at hc hB
  rw [hc] at hB
  injection hB with hB
  injection hB with _ ht
  exact absurd ht (by decide)
theorem zeX {lo hi:Nat} {A:Option Addr} {n c:Nat} {ss:List Sys} {w:World}(h:zey w lo hi A n ss)(hf:∀ s∈ss,Few 16 s.edges)(hn4:n≤1000) :
  Calls Tryz.prog 208 #[.slice A n c] w fun e w'=>∃ M d,e=.returned (.agg #[.slice A n c,.slice M n d])∧PtAt w' lo hi A n w.heap.size w'.heap.size M ss∧Ext w w':=by
 have HS:=za (fun W (hW:Ext w W)=>h.ext hW)
 have hL:=za h.1
 have Hf:=za hf
 have hlen:=h.len
 clear hf
 go_enter Tryz.func208,Tryz.ntmps208
 obtain⟨bz,bG⟩:=zU (Ext.refl ((w.alloc (.cells #[.slice none 0 0,.slice none 0 0] 222)).alloc (.cells #[.slice A n c,.slice none 0 0] 222)))
 have hw2:Ext w ((w.alloc (.cells #[.slice none 0 0,.slice none 0 0] 222)).alloc (.cells #[.slice A n c,.slice none 0 0] 222)):=((Ext.refl w).alloc _).alloc _
 go_upto_region 2 with fail
 have hsz1:w.heap.size≤(w.alloc (.cells #[.slice none 0 0,.slice none 0 0] 222)).heap.size:=by simp
 have hsz2:(w.alloc (.cells #[.slice none 0 0,.slice none 0 0] 222)).heap.size=w.heap.size+1:=by simp
 have hgr:Grp (w.alloc (.cells #[.slice none 0 0,.slice none 0 0] 222)) ((w.alloc (.cells #[.slice none 0 0,.slice none 0 0] 222)).alloc (.cells #[.slice A n c,.slice none 0 0] 222)) (w.heap.size+1) (.slice A n c) (.slice none 0 0) [] []:=
  ⟨bG,World.ownsRow_nil _ _ _ _,⟨rfl,fun i b s hb=>by simp at hb⟩,(Ext.refl _).alloc _,by rw [hsz2];exact Nat.le_refl _⟩
 clear bG
 generalize (w.alloc (.cells #[.slice none 0 0,.slice none 0 0] 222)).alloc (.cells #[.slice A n c,.slice none 0 0] 222)=w2 at *
 generalize w.alloc (.cells #[.slice none 0 0,.slice none 0 0] 222)=w1 at *
 go_wp2_with fail
 go_loopw [10] (fun i wr=>∃ (k:Nat) (v:Value) (bs:List Nat),k≤n∧i=.int .i64 k∧Grp w1 wr (w.heap.size+1) (.slice A n c) v bs (ss.take k)∧Hid (bs.length=k)∧Blk wr w.heap.size 222 #[.slice none 0 0,.slice none 0 0]∧Ext w wr) (fun i _=>n - (intOf i).toNat)
 case atStart=>exact⟨0,_,[],Nat.zero_le _,rfl,by simpa using hgr,za rfl,bz,hw2⟩
 case round =>
  clear hgr bz hw2 w2
  obtain⟨k,v,bs,hk,rfl,hgr,hbl,bz,hw⟩:=hrel
  by_cases hlt:k<n
  ·obtain⟨g,o,s,B,m,c',rfl,_,_,hs,c0,c1,c2,hsx⟩:=(HS.out wr hw).sys hlt
   have hfs:=za (Hf.out s (List.mem_of_getElem? hs.out))
   have Htk:=za (show ss.take (k+1)=ss.take k++[s] by rw [List.take_add_one,hs.out];rfl)
   have hx3:=(Ext.refl wr).alloc (.cells #[.int .i64 s.al,.int .i64 s.st,.slice B m c'] 38)
   have hbx:=Blk.new wr 38 #[.int .i64 s.al,.int .i64 s.st,.slice B m c']
   have hgr3:=hgr.ext_ hx3
   have hw3:=hw.trans hx3
   have bz3:=bz.ext hx3
   have hsx3:=hsx.ext hx3
   clear hgr
   go_upto_region 5 with fail
   clear c0 c1 c2
   generalize wr.alloc (.cells #[.int .i64 s.al,.int .i64 s.st,.slice B m c'] 38)=w3 at *
   have c5:=hbx.cells
   have cG:∀ W,Ext w3 W→∀ q,W.cell? ⟨w.heap.size+1,q,none⟩=#[Value.slice (some ⟨g,o,none⟩) n c,v][q]?:=fun W hW=>(hgr3.blk.ext hW).cell
   have hww:=Ext.refl w3
   refine uR (fun X=>Ext w3 X) [5,7] (zw.of [0,1,2,3,4,5,6,7]) ?_
   refine uQ ?_
   (refine zd rfl rfl rfl (fun K hK=>?_);go_simp)
   refine (zfB (hsx3.ext hww.drew) hfs.out).mono ?_
   rintro e w4 ⟨b,rfl,hb1,hmv,hx4⟩
   have hww4:=hww.drew.trans hx4
   refine hK.out _ _ hww4 ?_
   refine pT ?_
   refine uQ ?_
   (refine zd rfl rfl rfl (fun K hK=>?_);go_simp)
   refine hK.out _ _ (hww4.alloc _) ?_
   refine pT ?_
   (refine zb rfl rfl rfl rfl (fun K hK=>?_))
   refine zaG w1 w4 _ _ _ rfl 243 _ 1 8 Tryz.underlying220 info_pmov rfl (by decide) v bs.length (ptrs bs) _ _ rfl rfl (hgr3.ext.trans hww4).size (zh hgr3.own hww4) rfl (by simp [Value.oneCell']) (by unfold maxLen;have:=hbl.out;omega) (by have:=hbl.out;omega) ?_
   intro g5 cap5 w5 ziy hg5 hat5 hlt5
   refine hK.out _ _ ?_
   refine pT ?_
   refine uQ ?_
   obtain⟨p1,p2,p3⟩:=(hgr3.ext_ hww4).push (s:=s) hmv (W':=w5) ziy hg5 hat5
   have p1':=p1.out
   have bz5:Blk w5 w.heap.size 222 #[.slice none 0 0,.slice none 0 0]:=(hg5.block _ (bz3.ext hww4).lt (fun e=>zdX (zh hgr3.own hww4) (bz3.ext hww4) (by decide) e.symm rfl)).trans (bz3.ext hww4)
   have hw5:Ext w w5:=(hw3.trans hww4).grown hg5 (fun q hq=>by have:=(zh hgr3.own hww4).lt q hq;omega)
   have bz6:=bz5.far (p:=⟨w.heap.size+1,1,none⟩) (by simp) (.slice (some ⟨g5,0,none⟩) (bs.length+1) cap5)
   have hw6:=hw5.setCell (p:=⟨w.heap.size+1,1,none⟩) (by simp) (.slice (some ⟨g5,0,none⟩) (bs.length+1) cap5)
   (refine zb rfl rfl rfl rfl (fun K hK=>?_))
   go_simp
   refine hK.out _ _ ?_
   refine ze ?_
   go_wp2_with fail
   go_roundw
   case rel=>exact⟨k+1,_,bs++[b],by omega,by go_num,by rw [Htk.out];exact p3,za (by rw [List.length_append,hbl.out];rfl),bz6,hw6⟩
   case measure=>simp [intOf];omega
  ·obtain rfl:n=k:=by omega
   obtain⟨M,d,rfl⟩:∃ M d,v=.slice M n d:=by
    have ho:=hgr.own
    rw [hbl.out] at ho
    exact zg ho
   have cG:=hgr.blk.cell
   have cZ:=bz.cell
   have fZ:=bz.frozen
   have hfl:Frm (fun k=>k=w.heap.size) wr ((wr.setCell ⟨w.heap.size,0,none⟩ (.slice A n c)).setCell ⟨w.heap.size,1,none⟩ (.slice M n d)):=(Frm.setCell wr _ 0 _).trans (Frm.setCell _ _ 1 _)
   have hbf:Blk ((wr.setCell ⟨w.heap.size,0,none⟩ (.slice A n c)).setCell ⟨w.heap.size,1,none⟩ (.slice M n d)) w.heap.size 222 #[.slice A n c,.slice M n d]:=by simpa using (bz.set_ 0 (.slice A n c)).set_ 1 (.slice M n d)
   have hxf:=hw.frm hfl (fun k hk e=>by omega)
   have zio:=za (show ∃ M' d',Ending.returned (.agg #[.slice A n c,.slice M n d])=.returned (.agg #[.slice A n c,.slice M' n d'])∧PtAt ((wr.setCell ⟨w.heap.size,0,none⟩ (.slice A n c)).setCell ⟨w.heap.size,1,none⟩ (.slice M n d)) lo hi A n w.heap.size ((wr.setCell ⟨w.heap.size,0,none⟩ (.slice A n c)).setCell ⟨w.heap.size,1,none⟩ (.slice M n d)).heap.size M' ss∧Ext w ((wr.setCell ⟨w.heap.size,0,none⟩ (.slice A n c)).setCell ⟨w.heap.size,1,none⟩ (.slice M n d)) from by
    refine⟨M,d,rfl,⟨HS.out _ hxf,bs,?_,?_⟩,hxf⟩
    ·have ho:=zbo hgr.own hfl (fun b h1 e=>by omega)
     rw [hbl.out] at ho
     exact (Reads.of_own ho).more (by omega) (Nat.le_refl _)
    ·have hm:=hgr.mov
     rw [List.take_of_length_le (by have:=hL.out;omega)] at hm
     exact hm.frm hfl (fun b cs hc hS=>by
      subst hS
      unfold Blk at hc bz
      rw [hc] at bz
      injection bz with bz
      injection bz with _ ht
      exact absurd ht (by decide)))
   go_wp2_with fail
   generalize (wr.setCell ⟨w.heap.size,0,none⟩ (.slice A n c)).setCell ⟨w.heap.size,1,none⟩ (.slice M n d)=wf at *
   have cf:=hbf.cell
   exact bodyPost_ret (v:=.agg #[.slice A n c,.slice M n d]) (by simp [results,Tryz.results208,go_sem,cf]) rfl zio.out
theorem zdI (l:List Nat) (x:Nat):zaq (l++[x])=zaq l++[.int .i64 (x:Nat)]:=by simp [zaq]
theorem spec_l4Sizes {PA AA:Option Addr} {pn pc an ac:Nat} {sv:Value} {L K G:Int} {ss:List Sys} {us:List Aut} {w:World}(h:zeR w PA pn AA an ss us)(hok:zdd ss us) :
  Calls Tryz.prog 220 #[.agg #[.slice PA pn pc,.slice AA an ac,sv,.int .i64 L,.int .i64 K,.int .i64 G]] w (zbF w (szs ss us)):=by
 have HN:=za (fun W (hW:Ext w W)=>h.ext hW)
 have hpn:Hid (pn=ss.length):=by obtain⟨_,_,h1⟩:=h.sys;exact h1.1
 have han:Hid (an=us.length):=by obtain⟨_,_,h1⟩:=h.aut;exact h1.1
 have hp3:pn≤3:=by rw [hpn.out];exact hok.few
 have ha2:an≤2:=by rw [han.out];exact hok.few'
 have Hok:=za hok
 clear h hok
 go_enter Tryz.func220,Tryz.ntmps220
 have hw1:Ext w (w.alloc (.cells #[.slice PA pn pc,.slice AA an ac,sv,.int .i64 L,.int .i64 K,.int .i64 G] 168)):=(Ext.refl w).alloc _
 have hb1:=Blk.new w 168 #[.slice PA pn pc,.slice AA an ac,sv,.int .i64 L,.int .i64 K,.int .i64 G]
 go_wp2
 go_loopw [3,4] (fun v i wr=>∃ k:Nat,k≤pn∧i=.int .i64 k∧wr.ownsRow w.heap.size 3 1 v k (zaq ((ss.take k).map fun s=>s.st.toNat))∧Ext w wr∧Blk wr w.heap.size 168 #[.slice PA pn pc,.slice AA an ac,sv,.int .i64 L,.int .i64 K,.int .i64 G])
  (fun _ i _=>pn - (intOf i).toNat)
 case atStart=>exact⟨0,Nat.zero_le _,rfl,(by have h0:=World.ownsRow_lit (base:=w.heap.size) (e:=3) (size:=1) (w.alloc (.cells #[.slice PA pn pc,.slice AA an ac,sv,.int .i64 L,.int .i64 K,.int .i64 G] 168)) #[] 0 (by simp) (by unfold maxLen;omega) rfl;simpa [zaq] using h0),hw1.alloc _,hb1.ext ((Ext.refl _).alloc _)⟩
 case round =>
  obtain⟨k,hk,rfl,zil,zin,hbx⟩:=hrel
  have c0:=hbx.cell
  by_cases hlt:k<pn
  ·obtain⟨lo,hi,hsl⟩:=(HN.out wr zin).sys
   obtain⟨b,o,s,B,q,d,rfl,hlo,hhi,hs,e0,e1,e2,hsy⟩:=hsl.sys hlt
   have hss:=zcX (Hok.out.sys s (List.mem_of_getElem? hs.out))
   obtain⟨p,hp⟩:∃ p:Nat,Hid (s.st=p):=⟨s.st.toNat,by have:=hss.1;unfold Hid;omega⟩
   rw [hp.out] at e1
   have Htk:=za (show (ss.take (k+1)).map (fun s=>s.st.toNat)=(ss.take k).map (fun s=>s.st.toNat)++[p] by rw [List.take_add_one,hs.out];simp [hp.out])
   clear hss hsl hsy
   go_wp2_with (at_builtin;refine zQ w wr rfl _ _ _ rfl 3 _ 1 8 Tryz.underlying137 zY rfl (by decide) u3 _ _ _ _ rfl rfl zin zil rfl (zaI _) (by unfold maxLen;omega) (by omega) ?_;intro v' w1 hext1 ziv hg1 hat1)
   have hbx1:Blk w1 w.heap.size 168 #[.slice (some ⟨b,o,none⟩) pn pc,.slice AA an ac,sv,.int .i64 L,.int .i64 K,.int .i64 G]:=(hg1.block _ hbx.lt (fun e=>zdX zil hbx (by decide) e.symm rfl)).trans hbx
   go_roundw
   case rel=>exact⟨k+1,by omega,by go_num,by rw [Htk.out,zdI];exact ziv,hext1,hbx1⟩
   case measure=>simp [intOf];omega
  ·obtain rfl:pn=k:=by omega
   have hown0:wr.ownsRow w.heap.size 3 1 u3 pn (zaq (ss.map fun s=>s.st.toNat)):=by rw [List.take_of_length_le (by have:=hpn.out;omega)] at zil;exact zil
   clear zil
   go_wp2
   go_loopw [3,5] (fun v i wr=>∃ k:Nat,k≤an∧i=.int .i64 k∧wr.ownsRow w.heap.size 3 1 v (pn+k) (zaq (ss.map (fun s=>s.st.toNat)++(us.take k).map fun a=>a.next.length))∧Ext w wr∧Blk wr w.heap.size 168 #[.slice PA pn pc,.slice AA an ac,sv,.int .i64 L,.int .i64 K,.int .i64 G])
    (fun _ i _=>an - (intOf i).toNat)
   case atStart=>exact⟨0,Nat.zero_le _,rfl,by simpa using hown0,zin,hbx⟩
   case round =>
    clear hown0 zin hbx c0
    obtain⟨k,hk,rfl,zil,zin,hbx⟩:=hrel
    have c0:=hbx.cell
    by_cases hlt:k<an
    ·obtain⟨lo,hi,hsl⟩:=(HN.out wr zin).aut
     obtain⟨b,o,a,B,m,c,B',m',c',rfl,hs,e0,e1,e2,hat⟩:=hsl.aut hlt
     have hm:=za hat.n1
     have hm12:m≤12:=by have:=(zj (Hok.out.aut a (List.mem_of_getElem? hs.out))).2.1;rw [← hm.out] at this;omega
     have Htk:=za (show ss.map (fun s=>s.st.toNat)++(us.take (k+1)).map (fun a=>a.next.length)=(ss.map (fun s=>s.st.toNat)++(us.take k).map (fun a=>a.next.length))++[m] by rw [List.take_add_one,hs.out];simp [hm.out])
     clear hsl hat
     go_wp2_with (at_builtin;refine zQ w wr rfl _ _ _ rfl 3 _ 1 8 Tryz.underlying137 zY rfl (by decide) u3 _ _ _ _ rfl rfl zin zil rfl (zaI _) (by unfold maxLen;omega) (by omega) ?_;intro v' w1 hext1 ziv hg1 hat1)
     have hbx1:Blk w1 w.heap.size 168 #[.slice PA pn pc,.slice (some ⟨b,o,none⟩) an ac,sv,.int .i64 L,.int .i64 K,.int .i64 G]:=(hg1.block _ hbx.lt (fun e=>zdX zil hbx (by decide) e.symm rfl)).trans hbx
     go_roundw
     case rel=>exact⟨k+1,by omega,by go_num,by rw [Htk.out,zdI];exact ziv,hext1,hbx1⟩
     case measure=>simp [intOf];omega
    ·obtain rfl:an=k:=by omega
     have hown0:wr.ownsRow w.heap.size 3 1 u3 (pn+an) (zaq (szs ss us)):=by rw [List.take_of_length_le (by have:=han.out;omega)] at zil;exact zil
     have hle:pn+an=(szs ss us).length:=by have:=zdK hown0;simp [zaq] at this;omega
     rw [hle] at hown0
     obtain⟨A5,c5,rfl⟩:=zg hown0
     clear zil
     go_wp2
     go_ret
     exact⟨_,_,rfl,hown0,zin⟩
theorem zia {A B:Option Addr} {c d:Nat} {lo hi lo' hi':Nat} {sz st:List Nat} {w:World}(h:Lst zbp w lo hi A sz)(h':Lst zbp w lo' hi' B st)(hl:sz.length=st.length)(hb:∀ k,k≤sz.length→encF 0 (sz.take k) (st.take k)≤1048576)(hz:∀ x∈sz,x≤16)(hs:∀ x∈st,x≤16) :
  Calls Tryz.prog 225 #[.slice A sz.length c,.slice B st.length d] w fun e w'=>e=.returned (.int .i64 (encF 0 sz st:Nat))∧Ext w w':=by
 have HA:=za (fun W (hW:Ext w W)=>h.ext zbp.ok hW)
 have HB:=za (fun W (hW:Ext w W)=>h'.ext zbp.ok hW)
 have Hb:=za hb
 have Hz:=za hz
 have Hs:=za hs
 have hlen:=h.len
 have hn:∃ n:Nat,Hid (sz.length=n)∧Hid (st.length=n):=⟨sz.length,rfl,hl.symm⟩
 obtain⟨n,hn1,hn2⟩:=hn
 rw [hn1.out] at hlen
 rw [hn1.out,hn2.out]
 clear hb hz hs hl h h'
 go_enter Tryz.func225,Tryz.ntmps225
 go_wp2
 go_loopw [5,6] (fun v i wr=>∃ k y:Nat,k≤n∧i=.int .i64 k∧v=.int .i64 y∧Hid (y=encF 0 (sz.take k) (st.take k))∧y≤1048576∧Ext w wr) (fun _ i _=>n - (intOf i).toNat)
 case atStart=>exact⟨0,0,Nat.zero_le _,rfl,rfl,rfl,by omega,Ext.refl _⟩
 case round =>
  obtain⟨k,y,hk,rfl,rfl,hy,hym,hx⟩:=hrel
  by_cases hlt:k<n
  ·obtain⟨b,o,s,rfl,_,_,hs,hc⟩:=(HA.out wr hx).num (show k<sz.length by rw [hn1.out];exact hlt)
   obtain⟨b',o',t,rfl,_,_,ht,hc'⟩:=(HB.out wr hx).num (show k<st.length by rw [hn2.out];exact hlt)
   have hs16:=Hz.out s (List.mem_of_getElem? hs.out)
   have ht16:=Hs.out t (List.mem_of_getElem? ht.out)
   have c1:∀ W,Ext wr W→W.cell? ⟨b,o+k,none⟩=some (.int .i64 (s:Nat)):=fun W hW=>hW.cell_some hc
   have c2:∀ W,Ext wr W→W.cell? ⟨b',o'+k,none⟩=some (.int .i64 (t:Nat)):=fun W hW=>hW.cell_some hc'
   have hst:=za (show encF 0 (sz.take (k+1)) (st.take (k+1))=y*s+t by
    have key:∀ (k acc:Nat) (sz st:List Nat),sz[k]?=some s→st[k]?=some t→encF acc (sz.take (k+1)) (st.take (k+1))=encF acc (sz.take k) (st.take k)*s+t:=by
     intro k
     induction k with
     |zero =>
      intro acc sz st h1 h2
      cases sz<;>cases st<;>simp at h1 h2
      subst h1;subst h2
      simp [encF]
     |succ k ih =>
      intro acc sz st h1 h2
      cases sz<;>cases st<;>simp at h1 h2
      simpa [encF] using ih _ _ _ h1 h2
    rw [key k 0 sz st hs.out ht.out,hy.out])
   have hbd:=Hb.out (k+1) (by rw [hn1.out];omega)
   rw [hst.out] at hbd
   have hmul:y*s≤1048576:=by omega
   obtain⟨ys,hys⟩:∃ z:Nat,Hid (y*s=z):=⟨_,rfl⟩
   have hysi:(y:Int)*(s:Int)=(ys:Int):=by rw [← hys.out];exact (Int.natCast_mul y s).symm
   rw [hys.out] at hmul hbd hst
   have hrr:=Ext.refl wr
   clear hc hc'
   go_wp2_with fail
   go_quiet (fail)
   go_wp2_with fail
   go_roundw
   case rel=>exact⟨k+1,ys+t,by omega,by go_num,by go_num,by unfold Hid;rw [hst.out],hbd,hx.drewN _⟩
   case measure=>simp [intOf];omega
  ·obtain rfl:n=k:=by omega
   have zio:=za (show y=encF 0 sz st by rw [hy.out,List.take_of_length_le (by rw [hn1.out];exact Nat.le_refl _),List.take_of_length_le (by rw [hn2.out];exact Nat.le_refl _)])
   go_wp2
   go_ret
   exact⟨zB (by rw [zio.out]),hx⟩
def decV (sz:List Nat) (x k:Nat):List Nat:=List.replicate k 0++dec (sz.drop k) x
theorem decV_set {sz:List Nat} {x k s:Nat}(h:sz[k]?=some s):(zaq (decV sz x (k+1))).set k (.int .i64 ((x / zaz (sz.drop (k+1)) % s:Nat):Int))=zaq (decV sz x k):=by
 have hd:sz.drop k=s :: sz.drop (k+1):=by
  obtain⟨hk,rfl⟩:=List.getElem?_eq_some_iff.1 h
  exact List.drop_eq_getElem_cons hk
 unfold decV zaq
 rw [hd,dec,List.replicate_succ',List.append_assoc,List.map_append,List.map_append,List.set_append_right _ _ (by simp)]
 simp
theorem zfk {A:Option Addr} {c n y0:Nat} {lo hi:Nat} {sz:List Nat} {w:World}(h:Lst zbp w lo hi A sz)(hn:sz.length=n)(hn5:n≤1000)(hz:∀ x∈sz,1≤x∧x≤16)(hy:y0≤4611686018427387904) :
  Calls Tryz.prog 223 #[.slice A n c,.int .i64 y0] w (zbF w (dec sz y0)):=by
 have HA:=za (fun W (hW:Ext w W)=>h.ext zbp.ok hW)
 have Hz:=za hz
 have Hn:=za hn
 clear hz h hn
 go_enter Tryz.func223,Tryz.ntmps223
 go_wp2_with (at_make;refine zbX w w rfl _ _ 137 rfl 3 _ 1 8 Tryz.underlying137 zY _ _ n rfl rfl (Ext.refl _) (by omega) (by unfold maxLen;omega) ?_;intro w3 hw3 zix hx23 hsz3)
 generalize hg:w.heap.size=g at *
 have Hg:=za hg
 clear hg hx23 hsz3
 go_loopw [1,6] (fun v i wr=>∃ k y:Nat,k≤n∧i=.int .i64 ((k:Int) - 1)∧v=.int .i64 y∧y≤4611686018427387904∧Hid (y=y0 / zaz (sz.drop k))∧wr.ownsRow g 3 1 (.slice (some ⟨g,0,none⟩) n n) n (zaq (decV sz y0 k))∧Ext w wr) (fun _ i _=>(intOf i+1).toNat)
 case atStart=>exact⟨n,y0,Nat.le_refl _,by go_num,rfl,hy,by unfold Hid;rw [List.drop_of_length_le (by have:=Hn.out;omega)];simp [zaz],by rw [decV,List.drop_of_length_le (by have:=Hn.out;omega)];simpa [zaq,dec,Value.cells,toList_madeCells_one] using zix,hw3⟩
 case round =>
  clear zix hw3
  obtain⟨k,y,hk,rfl,rfl,hym,hyo,zil,hx⟩:=hrel
  by_cases hlt:0<k
  ·obtain⟨j,rfl⟩:∃ j,k=j+1:=⟨k - 1,by omega⟩
   obtain⟨b,o,s,rfl,_,_,hs,hc⟩:=(HA.out wr hx).num (show j<sz.length by have:=Hn.out;omega)
   obtain⟨s1,s16⟩:=Hz.out s (List.mem_of_getElem? hs.out)
   obtain⟨o0,g0⟩:=zbb zil j (by omega)
   have f0:=zil.frozenAt j
   have hmd:(y:Int) % (s:Int)=((y % s:Nat):Int):=(Int.natCast_emod y s).symm
   have hdv:(y:Int) / (s:Int)=((y / s:Nat):Int):=(Int.natCast_ediv y s).symm
   have hst:=zil.stored j (.int .i64 ((y % s:Nat):Int))
   rw [hyo.out,decV_set hs.out,← hyo.out] at hst
   have hdr:=za (show y / s=y0 / zaz (sz.drop j) by
    rw [hyo.out,Nat.div_div_eq_div_mul,List.drop_eq_getElem_cons (show j<sz.length by have:=Hn.out;omega),zaz]
    have:sz[j]'(by have:=Hn.out;omega)=s:=by
     obtain⟨h1,h2⟩:=List.getElem?_eq_some_iff.1 hs.out
     exact h2
    rw [this,Nat.mul_comm])
   have hle:y / s≤4611686018427387904:=Nat.le_trans (Nat.div_le_self _ _) hym
   have hs0:¬ (s=0):=by omega
   have hgw:w.heap.size≤g:=by have:=Hg.out;omega
   have hj1:((j+1:Nat):Int) - 1=(j:Int):=by omega
   rw [hj1]
   have hc2:=(HA.out _ (hx.setCell (p:=⟨g,j,none⟩) hgw (.int .i64 ((y % s:Nat):Int)))).num2 hs.out
   generalize y % s=ym at *
   generalize y / s=yd at *
   go_wp2
   go_roundw
   case rel=>exact⟨j,yd,by omega,rfl,rfl,hle,hdr,hst.1,hx.setCell (p:=⟨g,j,none⟩) hgw _⟩
   case measure=>simp [intOf]
  ·obtain rfl:k=0:=by omega
   have hlen:=zcP sz y0
   have zio:=za (show wr.ownsRow w.heap.size 3 1 (.slice (some ⟨g,0,none⟩) (dec sz y0).length n) (dec sz y0).length (zaq (dec sz y0)) by
    rw [hlen,Hn.out,Hg.out]
    simpa [decV] using zil)
   have hln:(dec sz y0).length=n:=by have:=Hn.out;omega
   go_wp2
   go_ret
   exact⟨some ⟨g,0,none⟩,n,by rw [hln];rfl,zio.out,hx⟩
theorem spec_l4In {A:Option Addr} {c n:Nat} {lo hi x:Nat} {xs:List Nat} {w:World}(h:Lst zbp w lo hi A xs)(hn:xs.length=n) :
  Calls Tryz.prog 277 #[.slice A n c,.int .i64 x] w fun e w'=>e=.returned (.bool (decide (x∈xs)))∧w=w':=by
 have Hn:=za hn
 have hlen:=h.len
 rw [hn] at hlen
 clear hn
 go_enter Tryz.func277,Tryz.ntmps277
 go_wp2
 go_loop [5] (fun i=>∃ k:Nat,k≤n∧i=.int .i64 k∧Hid (∀ (j z:Nat),j<k→xs[j]?=some z→z≠x)) (fun i=>n - (intOf i).toNat)
 case atStart=>exact⟨0,Nat.zero_le _,rfl,(show Hid _ from fun j z hj=>by omega)⟩
 case round =>
  obtain⟨k,hk,rfl,hno⟩:=hrel
  by_cases hlt:k<n
  ·obtain⟨b,o,z,rfl,_,_,hz,hc⟩:=h.num (show k<xs.length by rw [Hn.out];exact hlt)
   by_cases hzx:z=x
   ·subst hzx
    have hm:=za (List.mem_of_getElem? hz.out)
    go_wp2
    go_ret
    exact⟨zk (by rw [decide_eq_true hm.out]),rfl⟩
   ·have hne:((z:Int)==(x:Int))=false:=by simp;omega
    go_wp2
    go_round
    case rel=>exact⟨k+1,by omega,by go_num,(show Hid _ from fun j y hj hy=>by
     by_cases e:j=k
     ·subst e
      have:=hz.out
      rw [hy] at this
      injection this with this
      subst this
      exact hzx
     ·exact hno.out j y (by omega) hy)⟩
    case measure=>simp [intOf];omega
  ·obtain rfl:n=k:=by omega
   have hm:=za (show ¬ x∈xs from fun hx=>by
    obtain⟨j,hj⟩:=List.getElem?_of_mem hx
    exact hno.out j x (by have:=(List.getElem?_eq_some_iff.1 hj).1;rw [Hn.out] at this;exact this) hj rfl)
   go_wp2
   go_ret
   exact⟨zk (by rw [decide_eq_false hm.out]),rfl⟩
def zbr (a:Aut) (q:Nat):Bool:=a.acc.getD q false
theorem zgF {PA AA:Option Addr} {pn pc an ac:Nat} {sv:Value} {L K G:Int} {ss:List Sys} {us:List Aut} {w:World} {SA:Option Addr} {sn sc lo hi i q:Nat} {st:List Nat} {a:Aut}(h:zeR w PA pn AA an ss us)(h':Lst zbp w lo hi SA st)(hsn:st.length=sn)(hi:us[i]?=some a)(hq:st[pn+i]?=some q)(hqa:q<a.acc.length) :
  Calls Tryz.prog 275 #[.agg #[.slice PA pn pc,.slice AA an ac,sv,.int .i64 L,.int .i64 K,.int .i64 G],.slice SA sn sc,.int .i64 i] w fun e w'=>e=.returned (.bool (zbr a q))∧Ext w w':=by
 have hia:i<an:=by obtain⟨_,_,h1⟩:=h.aut;rw [h1.1];exact (List.getElem?_eq_some_iff.1 hi).1
 have hsq:pn+i<sn:=by rw [← hsn];exact (List.getElem?_eq_some_iff.1 hq).1
 obtain⟨lo',hi',hal⟩:=h.aut
 have hlen:=hal.len
 have hlen':pn≤9223372036854775807:=by obtain⟨_,_,h1⟩:=h.sys;exact h1.len
 have hlen2:=h'.len
 rw [hsn] at hlen2
 obtain⟨b,o,a',B,m,c,B',m',c',rfl,ha',e0,e1,e2,hat⟩:=hal.aut hia
 obtain rfl:a=a':=by have:=ha'.out;rw [hi] at this;exact Option.some.inj this
 obtain⟨bs,os,q',rfl,_,_,hq',hc⟩:=h'.num (show pn+i<st.length by rw [hsn];exact hsq)
 obtain rfl:q=q':=by have:=hq'.out;rw [hq] at this;exact Option.some.inj this
 have hm':q<m':=by rw [hat.n2];exact hqa
 obtain⟨ad,x,rfl,_,_,hx,hcx⟩:=hat.2.2.bool hm'
 have zio:=za (show zbr a q=x by unfold zbr;rw [List.getD_eq_getElem?_getD,hx.out];rfl)
 have hml:=hat.2.2.len
 have hw1:Ext w (w.alloc (.cells #[.slice PA pn pc,.slice (some ⟨b,o,none⟩) an ac,sv,.int .i64 L,.int .i64 K,.int .i64 G] 168)):=(Ext.refl w).alloc _
 have hb1:=Blk.new w 168 #[.slice PA pn pc,.slice (some ⟨b,o,none⟩) an ac,sv,.int .i64 L,.int .i64 K,.int .i64 G]
 have c1:∀ W,Ext w W→W.cell? ⟨b,o+i*3+2,none⟩=some (.slice (some ad) m' c'):=fun W hW=>hW.cell_some e2
 have c2:∀ W,Ext w W→W.cell? ⟨bs,os+(pn+i),none⟩=some (.int .i64 (q:Nat)):=fun W hW=>hW.cell_some hc
 have c3:∀ W,Ext w W→W.cell? (ad.add q)=some (.bool x):=fun W hW=>hW.cell_some hcx
 clear hal hat h h' e0 e1 e2 hc hcx hx hq' ha' hi hq hqa
 go_enter Tryz.func275,Tryz.ntmps275
 go_wp2_with fail
 generalize w.alloc (.cells #[.slice PA pn pc,.slice (some ⟨b,o,none⟩) an ac,sv,.int .i64 L,.int .i64 K,.int .i64 G] 168)=w1 at *
 have c0:=hb1.cell
 have c1:=c1 w1 hw1
 have c2:=c2 w1 hw1
 have c3:=c3 w1 hw1
 have hpi:(pn:Int)+(i:Int)<(sn:Int):=by omega
 have hii:(i:Int)<(an:Int):=by omega
 have hqi:(q:Int)<(m':Int):=by omega
 go_quiet (fail)
 go_wp2_with fail
 go_ret
 exact⟨zk (by rw [zio.out]),hw1.drewN _⟩
def zal (w:World) (A:Option Addr) (m:Nat) (l:List Nat):Prop:=
 m=l.length∧m≤9223372036854775807∧(0<m→∃ (g o:Nat) (cs:Array Value),A=some ⟨g,o,none⟩∧w.heap[g]?=some (.cells cs 3 (0,0))∧∀ j x,l[j]?=some x→w.cell? ⟨g,o+j,none⟩=some (.int .i64 (x:Nat)))
theorem zal.frm {S:Nat→Prop} {w w':World} {A:Option Addr} {m:Nat} {l:List Nat}(h:zal w A m l)(hb:Frm S w w')(hS:∀ k,S k→∀ cs,w.heap[k]?≠some (.cells cs 3 (0,0))):zal w' A m l:=by
 refine⟨h.1,h.2.1,fun h0=>?_⟩
 obtain⟨g,o,cs,e,hh,hc⟩:=h.2.2 h0
 have hlt:=(Array.getElem?_eq_some_iff.1 hh).1
 have hn:¬ S g:=fun hs=>hS g hs cs hh
 exact⟨g,o,cs,e,(hb.block g hlt hn).trans hh,fun j x hx=>(World.cell?_of_block (w:=w) (hb.block g hlt hn)).trans (hc j x hx)⟩
theorem zal.ext {w w':World} {A:Option Addr} {m:Nat} {l:List Nat}(h:zal w A m l)(hb:Ext w w'):zal w' A m l:=h.frm (S:=fun _=>False) hb (fun _ hk=>hk.elim)
theorem zal.at_ {w:World} {A:Option Addr} {m k:Nat} {l:List Nat}(h:zal w A m l)(hk:k<m):∃ (g o x:Nat),A=some ⟨g,o,none⟩∧Hid (l[k]?=some x)∧w.cell? ⟨g,o+k,none⟩=some (.int .i64 (x:Nat)):=by
 obtain⟨g,o,cs,e,_,hc⟩:=h.2.2 (by omega)
 have hx:l[k]?=some (l[k]'(by have:=h.1;omega)):=List.getElem?_eq_getElem _
 exact⟨g,o,_,e,hx,hc k _ hx⟩
theorem zal.own {w:World} {base n c:Nat} {A:Option Addr} {l:List Nat}(h:w.ownsRow base 3 1 (.slice A n c) n (zaq l)):zal w A n l:=by
 have hl:=h.1
 rw [nats_length] at hl
 refine⟨by omega,(Reads.of_own h).len,fun h0=>?_⟩
 rcases h.2 with ⟨_,h1⟩|⟨g,cap,cur,hv,_,hh,_⟩
 ·omega
 ·have hA:A=some ⟨g,0,none⟩:=by injection hv
  subst hA
  refine⟨g,0,cur,rfl,hh,fun j x hx=>?_⟩
  have hj:=(List.getElem?_eq_some_iff.1 hx).1
  rw [Nat.zero_add,h.cellAt j (by omega)]
  simp [zaq,hx]
theorem info_step:(Tryz.prog.info? 272).map (fun i=>(i.zero,i.size,i.bytes))=some (some (.agg #[.int .i64 0,.int .i64 0,.slice none 0 0]),3,40):=by kernel_rfl
def zbN:List (Stp × Value)→List Value
 |[]=>[]
 |(p,v) :: r=>.int .i64 p.parent :: .int .i64 (p.letter:Nat) :: v :: zbN r
theorem zha (l m:List (Stp × Value)):zbN (l++m)=zbN l++zbN m:=by
 induction l with
 |nil=>rfl
 |cons x r ih=>obtain⟨p,v⟩:=x;simp [zbN,ih]
theorem zgH {l:List (Stp × Value)} {k:Nat} {p:Stp} {v:Value}(h:l[k]?=some (p,v)):(zbN l)[k*3]?=some (.int .i64 p.parent)∧(zbN l)[k*3+1]?=some (.int .i64 (p.letter:Nat))∧(zbN l)[k*3+2]?=some v:=by
 induction l generalizing k with
 |nil=>simp at h
 |cons a r ih =>
  cases k with
  |zero=>simp at h;subst h;exact⟨rfl,rfl,rfl⟩
  |succ k =>
   obtain⟨p',v'⟩:=a
   have:=ih (k:=k) (by simpa using h)
   have e1:(k+1)*3=k*3+1+1+1:=by omega
   refine⟨?_,?_,?_⟩<;>rw [e1]<;>simp only [zbN,List.getElem?_cons_succ]
   ·exact this.1
   ·exact this.2.1
   ·exact this.2.2
def Nodes (w:World) (sts:List (Stp × Value)):Prop:=∀ (k:Nat) (p:Stp) (v:Value),sts[k]?=some (p,v)→∃ A c,v=.slice A p.nodes.length c∧zal w A p.nodes.length p.nodes
theorem Nodes.frm {S:Nat→Prop} {w w':World} {sts:List (Stp × Value)}(h:Nodes w sts)(hb:Frm S w w')(hS:∀ k,S k→∀ cs,w.heap[k]?≠some (.cells cs 3 (0,0))):Nodes w' sts:=fun k p v hk=>by
 obtain⟨A,c,e,hx⟩:=h k p v hk
 exact⟨A,c,e,hx.frm hb hS⟩
structure Sea (w0 w:World) (bs bg bt gs N cs:Nat) (fg:Value) (S:List Bool) (vst:Value) (sts:List (Stp × Value)):Prop where
 ext:Ext w0 w
 vs:Blk w bs 26 #[.slice (some ⟨gs,0,none⟩) N cs]
 ds:w.ownsRow w0.heap.size 4 1 (.slice (some ⟨gs,0,none⟩) N cs) N (zaB S)
 vg:∃ t,Blk w bg t #[fg]
 vt:Blk w bt 270 #[vst]
 dt:w.ownsRow w0.heap.size 272 3 vst sts.length (zbN sts)
 nd:Nodes w sts
 hs:w0.heap.size≤bs
 hg:w0.heap.size≤bg
 ht:w0.heap.size≤bt
 hgt:bg≠bt
 hgg:bg≠gs
 hgv:∀ b,vst.ownBlock=some b→b≠bg
section
variable {w0 w w':World} {bs bg bt gs N cs:Nat} {fg vst:Value} {S:List Bool} {sts:List (Stp × Value)}
theorem Sea.far {T:Nat→Prop} {H:Nat}(h:Sea w0 w bs bg bt gs N cs fg S vst sts)(hb:Frm T w w')(hT:∀ k,T k→H≤k)(h1:bs<H)(h2:bg<H)(h3:bt<H)(h4:gs<H)(h5:∀ b,vst.ownBlock=some b→b<H)(h0:w0.heap.size≤H)(hn:Nodes w' sts):Sea w0 w' bs bg bt gs N cs fg S vst sts:=by
 obtain⟨t,hvg⟩:=h.vg
 refine⟨h.ext.frm hb (fun k hk hS=>by have:=hT k hS;omega),h.vs.frm hb (fun hS=>by have:=hT _ hS;omega),zf h.ds hb (fun b hv hS=>?_),⟨t,hvg.frm hb (fun hS=>by have:=hT _ hS;omega)⟩,h.vt.frm hb (fun hS=>by have:=hT _ hS;omega),zf h.dt hb (fun b hv hS=>by have:=hT _ hS;have:=h5 b hv;omega),hn,h.hs,h.hg,h.ht,h.hgt,h.hgg,h.hgv⟩
 have hbg:gs=b:=by simpa [Value.ownBlock] using hv
 have:=hT _ hS
 omega
theorem Sea.ext_ (h:Sea w0 w bs bg bt gs N cs fg S vst sts)(hx:Ext w w'):Sea w0 w' bs bg bt gs N cs fg S vst sts:=by
 obtain⟨t,hvg⟩:=h.vg
 exact⟨h.ext.trans hx,h.vs.ext hx,zh h.ds hx,⟨t,hvg.ext hx⟩,h.vt.ext hx,zh h.dt hx,h.nd.frm (S:=fun _=>False) hx (fun _ hk=>hk.elim),h.hs,h.hg,h.ht,h.hgt,h.hgg,h.hgv⟩
theorem Sea.gs_lt (h:Sea w0 w bs bg bt gs N cs fg S vst sts):w0.heap.size≤gs∧gs<w.heap.size:=h.ds.lt gs rfl
theorem Sea.gs_row (h:Sea w0 w bs bg bt gs N cs fg S vst sts):∃ cur,w.heap[gs]?=some (.cells cur 4 (0,0)):=by
 rcases h.ds.2 with ⟨hv,_⟩|⟨g,cap,cur,hv,_,hh,_⟩
 ·injection hv with h1;cases h1
 ·have:gs=g:=by injection hv with h1;injection h1 with h1;injection h1
  subst this
  exact⟨cur,hh⟩
theorem Sea.vst_row (h:Sea w0 w bs bg bt gs N cs fg S vst sts) {b:Nat}(hb:vst.ownBlock=some b):∃ cur,w.heap[b]?=some (.cells cur 272 (0,0)):=by
 rcases h.dt.2 with ⟨rfl,_⟩|⟨g,cap,cur,rfl,_,hh,_⟩
 ·simp [Value.ownBlock] at hb
 ·have hg:g=b:=by simpa [Value.ownBlock] using hb
  subst hg
  exact⟨cur,hh⟩
theorem Sea.mark (h:Sea w0 w bs bg bt gs N cs fg S vst sts) {n:Nat}:Sea w0 (w.setCell ⟨gs,n,none⟩ (.bool true)) bs bg bt gs N cs fg (S.set n true) vst sts:=by
 obtain⟨t,hvg⟩:=h.vg
 obtain⟨cur,hh⟩:=h.gs_row
 have hf:=Frm.setCell w gs n (.bool true)
 have hne:∀ {b:Nat} {t:TypeId} {cs:Array Value},w.heap[b]?=some (.cells cs t (0,0))→t≠4→b≠gs:=by
  rintro b t cs hb ht rfl
  rw [hh] at hb
  injection hb with hb
  injection hb with _ h2
  exact ht h2.symm
 have hset:(zaB S).set n (.bool true)=zaB (S.set n true):=by simp [zaB,List.map_set]
 have hds:=(h.ds.stored n (.bool true)).1
 rw [hset] at hds
 refine⟨h.ext.setCell h.gs_lt.1 _,h.vs.frm hf (hne h.vs (by decide)),hds,⟨t,hvg.frm hf h.hgg⟩,h.vt.frm hf (hne h.vt (by decide)),zf h.dt hf (fun b hv=>?_),h.nd.frm hf (fun k hk cs hc=>?_),h.hs,h.hg,h.ht,h.hgt,h.hgg,h.hgv⟩
 ·obtain⟨cur',hh'⟩:=h.vst_row hv
  exact hne hh' (by decide)
 ·exact hne hc (by decide) hk
theorem Sea.push {g cap l c':Nat} {A':Option Addr} {p:Stp}(h:Sea w0 w bs bg bt gs N cs fg S vst sts) (zil:w'.ownsRow w0.heap.size 272 3 (.slice (some ⟨g,0,none⟩) (sts.length+1) cap) (sts.length+1) (zbN sts++[.int .i64 p.parent,.int .i64 (p.letter:Nat),.slice A' l c']))
  (hg:w.grownBy w' vst.ownBlock) (hat:vst.ownBlock=some g∨g=w.heap.size+1) (hl:l=p.nodes.length) (hA:zal w A' l p.nodes) :
  Hid (w'.cell? ⟨bt,0,none⟩=some vst)∧w'.frozen? ⟨bt,0,none⟩=false∧Sea w0 (w'.setCell ⟨bt,0,none⟩ (.slice (some ⟨g,0,none⟩) (sts.length+1) cap)) bs bg bt gs N cs fg S (.slice (some ⟨g,0,none⟩) (sts.length+1) cap) (sts++[(p,.slice A' l c')]):=by
 obtain⟨t,hvg⟩:=h.vg
 have hf:=Frm.of_grown hg
 have hrow:∀ {b:Nat} {t:TypeId} {cs:Array Value},w.heap[b]?=some (.cells cs t (0,0))→t≠272→¬ (vst.ownBlock=some b):=by
  intro b t cs hb ht hv
  obtain⟨cur,hh⟩:=h.vst_row hv
  rw [hh] at hb
  injection hb with hb
  injection hb with _ h2
  exact ht h2.symm
 obtain⟨cur,hgs⟩:=h.gs_row
 have hvt:Blk w' bt 270 #[vst]:=h.vt.frm hf (hrow h.vt (by decide))
 have hvs:=h.vs.frm hf (hrow h.vs (by decide))
 have hds:=zf h.ds hf (fun b hv=>by
  have hb:gs=b:=by simpa [Value.ownBlock] using hv
  subst hb
  exact hrow hgs (by decide))
 have hvg':=hvg.frm hf (fun hv=>h.hgv _ hv rfl)
 have hnd:=h.nd.frm hf (fun k hk cs hc=>hrow hc (by decide) hk)
 have hA':=hA.frm hf (fun k hk cs hc=>hrow hc (by decide) hk)
 have hgs':w'.heap[gs]?=some (.cells cur 4 (0,0)):=(hf.block gs h.gs_lt.2 (hrow hgs (by decide))).trans hgs
 have hx:Ext w0 w':=h.ext.frm hf (fun k hk hv=>by have:=(h.dt.lt k hv).1;omega)
 have hgbg:g≠bg:=by
  rcases hat with h1|h1
  ·exact h.hgv g h1
  ·have:=hvg.lt;omega
 have hgr:∃ cur,w'.heap[g]?=some (.cells cur 272 (0,0)):=by
  rcases zil.2 with ⟨hv,_⟩|⟨g',cap',cur,hv,_,hh,_⟩
  ·injection hv with h1;cases h1
  ·have:g=g':=by injection hv with h1;injection h1 with h1;injection h1
   subst this
   exact⟨cur,hh⟩
 obtain⟨cur',hgr⟩:=hgr
 have hf2:=Frm.setCell w' bt 0 (.slice (some ⟨g,0,none⟩) (sts.length+1) cap)
 have hne:∀ {b:Nat} {t:TypeId} {cs:Array Value},w'.heap[b]?=some (.cells cs t (0,0))→t≠270→b≠bt:=by
  rintro b t cs hb ht rfl
  unfold Blk at hvt
  rw [hvt] at hb
  injection hb with hb
  injection hb with _ h2
  exact ht h2.symm
 have hdt:=zf zil hf2 (fun b hv=>by
  have hb:g=b:=by simpa [Value.ownBlock] using hv
  subst hb
  exact hne hgr (by decide))
 have hnd2:=hnd.frm hf2 (fun k hk cs hc=>hne hc (by decide) hk)
 have hA2:=hA'.frm hf2 (fun k hk cs hc=>hne hc (by decide) hk)
 refine⟨hvt.cell 0,hvt.frozen 0,hx.setCell h.ht _,hvs.frm hf2 (hne hvs (by decide)),zf hds hf2 (fun b hv=>by
  have hb:gs=b:=by simpa [Value.ownBlock] using hv
  subst hb
  exact hne hgs' (by decide)),⟨t,hvg'.frm hf2 h.hgt⟩,by simpa using hvt.set_ 0 _,?_,?_,h.hs,h.hg,h.ht,h.hgt,h.hgg,fun b hv=>?_⟩
 ·rw [zha]
  simpa [zbN] using hdt
 ·intro k p' v' hk
  rcases Nat.lt_trichotomy k sts.length with h1|h1|h1
  ·rw [List.getElem?_append_left h1] at hk
   exact hnd2 k p' v' hk
  ·rw [List.getElem?_append_right (by omega),h1,Nat.sub_self] at hk
   have:=Option.some.inj hk
   injection this with e1 e2
   subst e1;subst e2
   subst hl
   exact⟨A',c',rfl,hA2⟩
  ·rw [List.getElem?_eq_none (by simp;omega)] at hk
   cases hk
 ·have hb:g=b:=by simpa [Value.ownBlock] using hv
  subst hb
  exact hgbg
end
def RetVisit (w0 w:World) (bs bg bt gs N cs:Nat) (fg:Value) (S:List Bool) (sts:List (Stp × Value)) (goal:Nat→Bool) (parent:Int) (letter:Nat) (ns:List Nat) (e:Ending) (w':World):Prop:=
 e=.returned (.bool ((vis S ns).2.any goal))∧Ext w0 w'∧w.heap.size≤w'.heap.size ∧
  ∃ (vst:Value) (sts':List (Stp × Value)),Sea w0 w' bs bg bt gs N cs fg (vis S ns).1 vst sts' ∧
   (((vis S ns).2=[]∧sts'=sts)∨((vis S ns).2≠[]∧∃ v,sts'=sts++[(⟨parent,letter,(vis S ns).2⟩,v)]))
theorem vis_take {S:List Bool} {ns:List Nat} {k n:Nat}(h:ns[k]?=some n):vis S (ns.take (k+1))=visN (vis S (ns.take k)) n:=by
 rw [List.take_add_one,h]
 exact vis_snoc _ _ _
theorem Frm.grown_ {T:Nat→Prop} {w W W':World} {row:Option Nat}(h:Frm T w W)(hg:W.grownBy W' row)(hr:∀ k,row=some k→w.heap.size≤k):Frm T w W':=
 ⟨hg.os.trans h.os,hg.tape.trans h.tape,hg.output.trans h.output,Nat.le_trans h.size hg.size,fun k hk hn=>(hg.block k (Nat.lt_of_lt_of_le hk h.size) (fun e=>by have:=hr k e.symm;omega)).trans (h.block k hk hn)⟩
theorem any_snoc {l:List Nat} {n:Nat} {p:Nat→Bool}:(l++[n]).any p=(l.any p || p n):=by simp
theorem zgL {w0 w:World} {bs bg bt gs N cs kg:Nat} {capg:Array Value} {goal:Nat→Bool} {S:List Bool} {vst:Value} {sts:List (Stp × Value)} {A:Option Addr} {m c letter:Nat} {parent:Int} {ns:List Nat}
  (h:Sea w0 w bs bg bt gs N cs (.func (.func kg) #[] capg) S vst sts) (hA:zal w A m ns) (hN:∀ n∈ns,n<N) (hm:m≤1099511627776) (hst:sts.length≤1073741824)
  (hin:∀ args W,(callFunc kg args).run Tryz.prog W=.ok (.enter kg args) W) (hgoal:∀ W,Ext w0 W→∀ n,n<N→Calls Tryz.prog kg (#[.int .i64 (n:Nat)]++capg) W fun e W'=>e=.returned (.bool (goal n))∧Ext W W') :
  Calls Tryz.prog 262 #[.int .i64 parent,.int .i64 letter,.slice A m c,.pointer (some ⟨bs,0,none⟩),.pointer (some ⟨bg,0,none⟩),.pointer (some ⟨bt,0,none⟩)] w (RetVisit w0 w bs bg bt gs N cs (.func (.func kg) #[] capg) S sts goal parent letter ns):=by
 have hSl:=za (show S.length=N by have:=h.ds.1;rw [zdE] at this;omega)
 have hnl:=za hA.1
 have hNs:=za hN
 have Hgoal:=za hgoal
 have h1:=h.vs.lt
 have h2:bg<w.heap.size:=by obtain⟨t,hh⟩:=h.vg;exact hh.lt
 have h3:=h.vt.lt
 have h4:=h.gs_lt
 have h5:=za (fun b (hb:vst.ownBlock=some b)=>(h.dt.lt b hb).2)
 have h0:=h.ext.size
 have HgsI:=za (show ∀ k,k=gs→∀ cs,w.heap[k]?≠some (.cells cs 3 (0,0)) by
  rintro k rfl cs' hc
  obtain⟨cur,hh⟩:=h.gs_row
  rw [hh] at hc
  injection hc with hc
  injection hc with _ h2
  exact absurd h2 (by decide))
 have Hnd:=za h.nd
 clear hN hgoal
 go_enter Tryz.func262,Tryz.ntmps262
 go_wp2_with fail
 go_loopw [10,11,16] (fun v q i wr=>∃ k:Nat,k≤m∧i=.int .i64 k∧q=.bool ((vis S (ns.take k)).2.any goal)∧wr.ownsRow w.heap.size 3 1 v (vis S (ns.take k)).2.length (zaq (vis S (ns.take k)).2)∧(vis S (ns.take k)).2.length≤k ∧
   Sea w0 wr bs bg bt gs N cs (.func (.func kg) #[] capg) (vis S (ns.take k)).1 vst sts∧Frm (fun b=>b=gs) w wr) (fun _ _ i _=>m - (intOf i).toNat)
 case atStart=>exact⟨0,Nat.zero_le _,rfl,rfl,World.ownsRow_nil _ _ _ _,Nat.zero_le _,h,Frm.refl _ _⟩
 case round =>
  clear h
  obtain⟨k,hk,rfl,rfl,zil,hfl,h,hfr⟩:=hrel
  have hTl:=za (show (vis S (ns.take k)).1.length=N by have:=h.ds.1;rw [zdE] at this;omega)
  by_cases hlt:k<m
  ·obtain⟨g,o,n,rfl,hx,hc⟩:=(hA.frm hfr HgsI.out).at_ hlt
   have hnN:=hNs.out n (List.mem_of_getElem? hx.out)
   have hv1:=za (vis_take (S:=S) hx.out)
   generalize vis S (ns.take k)=st at *
   obtain⟨T,fr⟩:=st
   simp only at zil hfl h hTl
   obtain⟨tb,htb⟩:∃ tb,Hid (T[n]?=some tb):=⟨_,List.getElem?_eq_getElem (by have:=hTl.out;omega)⟩
   have htd:=za (show T.getD n true=tb by rw [List.getD_eq_getElem?_getD,htb.out];rfl)
   have cS:=h.vs.cell
   have cD:wr.cell? ⟨gs,n,none⟩=some (.bool tb):=by rw [h.ds.cellAt n (by omega)];simp [zaB,htb.out]
   have fD:=h.ds.frozenAt n
   cases tb
   ·have hv2:=za (hv1.out.trans (show visN (T,fr) n=(T.set n true,fr++[n]) by unfold visN;rw [if_neg (by rw [htd.out];decide)]))
    have hmk:=h.mark (n:=n)
    have hfm:Frm (fun b=>b=gs) w (wr.setCell ⟨gs,n,none⟩ (.bool true)):=hfr.cell rfl _
    have hgsw:=h4.2
    have hownm:=zf zil (Frm.setCell wr gs n (.bool true)) (fun b hv hS=>by have:=(zil.lt b hv).1;omega)
    have hcf:∃ tg,Blk wr bg tg #[.func (.func kg) #[] capg]:=h.vg
    cases hfb:fr.any goal
    all_goals
     have Hfb:=za hfb
     clear hfb
     go_upto_region 8 with fail
     generalize wr.setCell ⟨gs,n,none⟩ (.bool true)=w2 at *
     go_wp2_with (at_builtin;refine zX w _ rfl _ _ _ rfl 3 _ 1 8 Tryz.underlying137 zY rfl (by decide) u10 fr.length (zaq fr) _ _ rfl rfl hfm.size hownm rfl (by simp [Value.oneCell']) (by unfold maxLen;omega) (by omega) ?_;intro g5 cap5 w3 zix hg3 hat3 hlt3;have hf3:Frm (fun b=>b=gs) w w3:=hfm.grown_ hg3 (fun k hk=>(hownm.lt k hk).1);have hsea3:=hmk.far (Frm.of_grown hg3) (fun k hk=>(hownm.lt k hk).1) h1 h2 h3 h4.2 h5.out h0 (Hnd.out.frm hf3 HgsI.out);obtain⟨tg,hbg3⟩:=hsea3.vg;have cg3:=hbg3.cell)
    ·refine (Hgoal.out w3 hsea3.ext n hnN).mono ?_
     rintro e w4 ⟨rfl,hx4⟩
     go_wp2_with fail
     go_roundw
     case rel=>exact⟨k+1,by omega,by go_num,by rw [hv2.out,any_snoc,Hfb.out];rfl,by rw [hv2.out];simpa [zaq] using zh zix hx4,by rw [hv2.out];simp;omega,by rw [hv2.out];exact hsea3.ext_ hx4,hf3.ext hx4⟩
     case measure=>simp [intOf];omega
    ·go_roundw
     case rel=>exact⟨k+1,by omega,by go_num,by rw [hv2.out,any_snoc,Hfb.out];rfl,by rw [hv2.out];simpa [zaq] using zix,by rw [hv2.out];simp;omega,by rw [hv2.out];exact hsea3,hf3⟩
     case measure=>simp [intOf];omega
   ·have hv2:=za (hv1.out.trans (show visN (T,fr) n=(T,fr) by unfold visN;rw [if_pos htd.out]))
    go_wp2_with fail
    go_roundw
    case rel=>exact⟨k+1,by omega,by go_num,by rw [hv2.out],by rw [hv2.out];exact zil,by rw [hv2.out];exact Nat.le_succ_of_le hfl,by rw [hv2.out];exact h,hfr⟩
    case measure=>simp [intOf];omega
  ·obtain rfl:k=m:=by omega
   have htk:ns.take k=ns:=List.take_of_length_le (by have:=hnl.out;omega)
   rw [htk] at zil hfl h ⊢
   have hsz:=hfr.size
   clear htk hTl
   obtain⟨A',c',rfl⟩:=zg zil
   have hA':=zal.own zil
   have hres:=za (show ∀ W vst' sts',Sea w0 W bs bg bt gs N cs (.func (.func kg) #[] capg) (vis S ns).1 vst' sts'→w.heap.size≤W.heap.size→(((vis S ns).2=[]∧sts'=sts)∨((vis S ns).2≠[]∧∃ v,sts'=sts++[(⟨parent,letter,(vis S ns).2⟩,v)]))→RetVisit w0 w bs bg bt gs N cs (.func (.func kg) #[] capg) S sts goal parent letter ns (.returned (.bool ((vis S ns).2.any goal))) W from fun W vst' sts' h1 h2 h3=>⟨rfl,h1.ext,h2,vst',sts',h1,h3⟩)
   clear Hgoal hin
   generalize vis S ns=st at *
   obtain⟨T,fr⟩:=st
   simp only at zil hfl h hA' hres ⊢
   generalize fr.any goal=found at *
   cases hfr0:fr with
   |nil =>
    subst hfr0
    go_wp2_with fail
    go_ret
    exact hres.out _ _ _ h hsz (Or.inl (by simp))
   |cons x r =>
    have hfl0:0<fr.length:=by rw [hfr0];simp
    have hfne:=za (show fr≠[] by rw [hfr0];simp)
    rw [← hfr0]
    clear hfr0
    have cT:=h.vt.cell
    go_wp2_with (at_builtin;refine zX w0 wr rfl _ _ _ rfl 272 _ 3 40 Tryz.underlying270 info_step rfl (by decide) vst sts.length (zbN sts) _ _ rfl rfl h.ext.size h.dt rfl (by simp [Value.oneCell']) (by unfold maxLen;omega) (by omega) ?_;intro g5 cap5 w3 zix hg3 hat3 hlt3;obtain⟨q1,q2,q3⟩:=h.push (p:=⟨parent,letter,fr⟩) zix hg3 hat3 rfl hA';have q1':=q1.out;have hsz3:=hg3.size)
    go_ret
    exact hres.out _ _ _ q3 (by simp;omega) (Or.inr ⟨hfne.out,_,rfl⟩)
end Go.Proofs.YtmjaepibdpfblaaGreatDoor
namespace Go.Proofs.YtmjaepibdpfblaaGreatDoor
open Go Go.RowKit Go.Lib Go.Sort
abbrev zhg (n:Int):Value:=.int .u8 n
set_option maxRecDepth 1000000 in
theorem rev_bytes (blk off cap:Nat) (d:Array Int) (w:World)(hH:Holds zhg w blk off d)(hsz:d.size≤9223372036854775807) :
  Calls Tryz.prog 288 #[.slice (some ⟨blk,off,none⟩) d.size cap] w fun e w'=>e=.returned (.tuple #[])∧∃ n,w'=putRow zhg (Sort.ahead w n) blk off d.reverse:=by
 have mixed:Tryz.prog.follows .mixedOrders=true:=by kernel_rfl
 go_enter Tryz.func288,Tryz.ntmps288
 go_wp2
 go_loopg [2,3] d.size (fun k s2 s3 wr=>∃ (i jn:Nat) (jz:Int) (dk:Array Int) (n:Nat),s2=.int .i64 i∧s3=.int .i64 jz∧((i:Int)<jz→jz=jn∧jn<d.size)∧(¬ (i:Int)<jz→¬ i<jn)∧jn - i≤k ∧
  dk.size=d.size∧wr=putRow zhg (Sort.ahead w n) blk off dk∧reverseLoop i jn dk=reverseLoop 0 (d.size - 1) d)
 case atStart=>exact⟨0,d.size - 1,(d.size:Int) - 1,d,0,rfl,rfl,fun h=>⟨by omega,by omega⟩,fun h=>by omega,by omega,rfl,(putRow_self zhg w blk off d hH).symm,rfl⟩
 case round =>
  obtain⟨i,jn,jz,dk,n,rfl,rfl,h1,h2,hk,hds,hwr,heq⟩:=hrel
  by_cases hlt:(i:Int)<jz
  ·obtain⟨rfl,hjn⟩:=h1 hlt
   have hij:i<jn:=by omega
   have hid:i<d.size:=by omega
   have hHk:Holds zhg wr blk off dk:=by rw [hwr];exact holds_putRow zhg _ blk off d dk (holds_ahead zhg w n blk off d hH) hds
   obtain⟨ci,fi⟩:=hHk i (by omega)
   obtain⟨cj,fj⟩:=hHk jn (by omega)
   have A:Aside (wr=putRow zhg (Sort.ahead w n) blk off dk):=hwr
   clear hwr hHk hH h1 h2
   go_wp2_with fail
   go_region_o
   go_wp2
   go_roundg (jn - 1 - (i+1))
   case measure=>omega
   case rel =>
    rw [reverseLoop,if_pos hij] at heq
    exact⟨i+1,jn - 1,(jn:Int) - 1,swp dk i jn,n+1,by simp,rfl,fun h=>⟨by omega,by omega⟩,fun h=>by omega,Nat.le_refl _,by rw [size_swp];exact hds,
     swap_world zhg (by omega) (by omega) A.out (by first|rfl|simp [zhg,getElem!_pos,show jn<dk.size by omega]) (by first|rfl|simp [zhg,getElem!_pos,show i<dk.size by omega]),heq⟩
  ·have hnot:=h2 hlt
   go_wp2
   go_end0
   refine⟨rfl,n,?_⟩
   rw [reverseLoop,if_neg hnot] at heq
   rw [← Lib.reverseLoop_reverse,← heq]
end Go.Proofs.YtmjaepibdpfblaaGreatDoor
namespace Go.Proofs.YtmjaepibdpfblaaGreatDoor
open Go Go.RowKit
theorem zgQ {l:Nat}(hl:l<6) (w:World):Calls Tryz.prog 164 #[.int .i64 (l:Nat)] w fun e w'=>e=.returned (.int .u8 ((97+l:Nat):Nat))∧w=w':=by
 go_enter Tryz.func164,Tryz.ntmps164
 go_wp2
 go_ret
 exact⟨by rw [show (((97+l:Nat):Nat):Int)=97+(l:Int) by omega];rfl,rfl⟩
theorem rev_none (w:World):Calls Tryz.prog 288 #[.slice none 0 0] w fun e w'=>e=.returned (.tuple #[])∧w'=w:=by
 go_enter Tryz.func288,Tryz.ntmps288
 go_wp2
 go_loopg [2,3] 0 (fun k s2 s3 wr=>s2=.int .i64 0∧s3=.int .i64 (-1)∧wr=w)
 case atStart=>exact⟨rfl,rfl,rfl⟩
 case round =>
  obtain⟨rfl,rfl,rfl⟩:=hrel
  go_wp2
  go_end0
  exact⟨rfl,rfl⟩
theorem info_u8:(Tryz.prog.info? 5).map (fun i=>(i.zero,i.size,i.bytes))=some (some (.int .u8 0),1,1):=by kernel_rfl
def lbs (o:List Nat):List Int:=o.map fun l=>((97+l:Nat):Int)
theorem lbs_reverse (o:List Nat):lbs o.reverse=(lbs o).reverse:=by simp [lbs]
def u8s (l:List Int):List Value:=l.map zhg
theorem Holds.own8 {w:World} {base g n cap:Nat} {e:TypeId} {l:List Int}(h:w.ownsRow base e 1 (.slice (some ⟨g,0,none⟩) n cap) n (u8s l)):Sort.Holds zhg w g 0 l.toArray:=by
 intro j hj
 have hj':j<l.length:=by simpa using hj
 have hn:=h.1
 simp only [u8s,List.length_map] at hn
 refine⟨?_,by rw [Nat.zero_add];exact h.frozenAt j⟩
 rw [Nat.zero_add,h.cellAt j (by omega)]
 simp [u8s,hj']
theorem Ext.putRow {w W:World} {g off n:Nat} {d:Array Int}(h:Ext w W)(hg:w.heap.size≤g):Ext w (Sort.putRow zhg (Sort.ahead W n) g off d):=by
 refine⟨h.os,h.tape,h.output,?_,fun k hk _=>?_⟩
 ·show w.heap.size≤(W.heap.modify g _).size
  rw [Array.size_modify];exact h.size
 ·show (W.heap.modify g _)[k]?=_
  rw [Array.getElem?_modify,if_neg (by omega)]
  exact h.heap hk
theorem u8_row:Tryz.prog.underlying 62=some (.slice 5):=by kernel_rfl
theorem u8_und:Tryz.prog.underlying 5=some (.int .u8):=by kernel_rfl
theorem zig:Tryz.prog.underlying 9=some .string:=by kernel_rfl
theorem Ext.put_some {w W w':World} {g off:Nat} {d:Array Int}(h:Ext w W)(hg:w.heap.size≤g)(hw:∃ n,w'=Sort.putRow zhg (Sort.ahead W n) g off d):Ext w w':=by
 obtain⟨n,rfl⟩:=hw
 exact h.putRow hg
theorem conv_rev {W w':World} {g cap:Nat} {o:List Nat}(h:Sort.Holds zhg W g 0 (lbs o).toArray)(hw:∃ n,w'=Sort.putRow zhg (Sort.ahead W n) g 0 (lbs o).toArray.reverse) :
  (convert 62 9 (.slice (some ⟨g,0,none⟩) o.length cap)).run Tryz.prog w'=.ok (.string (strOfNums (lbs o.reverse))) w':=by
 obtain⟨n,rfl⟩:=hw
 have hH:=Sort.holds_putRow zhg _ g 0 _ (lbs o).toArray.reverse (Sort.holds_ahead zhg W n g 0 _ h) (by simp)
 refine run_convert_bytes_arg (P:=Tryz.prog) _ 62 5 u8_row u8_und g 0 o.length cap (lbs o.reverse) (by simp [lbs]) (fun i hi=>?_) _ zig
 rw [(hH i (by simpa [lbs] using hi)).1,lbs_reverse]
 have hi2:i<(lbs o).reverse.length:=by simpa [lbs] using hi
 have hi3:i<(lbs o).toArray.reverse.size:=by simpa [lbs] using hi
 rw [getElem!_pos (lbs o).toArray.reverse i hi3]
 simp [zhg,List.getD,List.getElem?_eq_getElem hi2,-List.getElem?_reverse,-List.getElem_reverse]
theorem pathWord_any {w:World} {base:Nat} {A:Option Addr} {n c:Nat} {sts:List (Stp × Value)} {ws:List (List Nat)}(h:w.ownsRow base 272 3 (.slice A n c) n (zbN sts))(hn:sts.length=n)(h0:0<n)(hsz:n≤1073741824)
  (hw:∀ (k:Nat) (p:Stp) (v:Value),sts[k]?=some (p,v)→(p.parent = -1∧ws.getD k []=[])∨∃ a:Nat,p.parent=(a:Int)∧a<k∧p.letter<6∧ws.getD k []=ws.getD a []++[p.letter]) :
  Calls Tryz.prog 263 #[.slice A n c] w fun e w'=>e=.returned (.string (strOfNums (lbs (ws.getD (n - 1) []))))∧Ext w w':=by
 have Hw:=za hw
 have Hn:=za hn
 obtain⟨g,rfl⟩:∃ g,A=some ⟨g,0,none⟩:=by
  rcases h.2 with ⟨_,hh⟩|⟨g,cap,cur,hv,_⟩
  ·omega
  ·exact⟨g,by injection hv⟩
 have hgl:=(h.lt g rfl).2
 have Hcell:=za (fun (k:Nat) (p:Stp) (v:Value) (hk:sts[k]?=some (p,v))=>(show w.cell? ⟨g,k*3,none⟩=some (.int .i64 p.parent)∧w.cell? ⟨g,k*3+1,none⟩=some (.int .i64 (p.letter:Nat)) by
  have hkl:=(List.getElem?_eq_some_iff.1 hk).1
  obtain⟨e1,e2,_⟩:=zgH hk
  rw [h.cellAt _ (by omega),h.cellAt _ (by omega)]
  exact⟨e1,e2⟩))
 clear hw hn h
 go_enter Tryz.func263,Tryz.ntmps263
 go_wp2
 go_loopw [3,4] (fun v i wr=>∃ (k:Nat) (o:List Nat),k<n∧i=.int .i64 k∧wr.ownsRow w.heap.size 5 1 v o.length (u8s (lbs o))∧Hid (ws.getD (n - 1) []=ws.getD k []++o.reverse)∧o.length+k<n∧Ext w wr)
  (fun _ i _=>(intOf i).toNat)
 case atStart=>exact⟨n - 1,[],by omega,by first|go_num|(congr 1;omega),World.ownsRow_nil _ _ _ _,by simp [Hid],by simp;omega,Ext.refl _⟩
 case round =>
  obtain⟨k,o,hk,rfl,zil,hword,hol,zin⟩:=hrel
  obtain⟨p,v,hp⟩:∃ p v,sts[k]?=some (p,v):=⟨_,_,List.getElem?_eq_getElem (by have:=Hn.out;omega)⟩
  obtain⟨c0,c1⟩:=Hcell.out k p v hp
  have C0:∀ W,Ext w W→W.cell? ⟨g,k*3,none⟩=some (.int .i64 p.parent):=fun W hW=>hW.cell_some c0
  have C1:∀ W,Ext w W→W.cell? ⟨g,k*3+1,none⟩=some (.int .i64 (p.letter:Nat)):=fun W hW=>hW.cell_some c1
  obtain⟨par,l,ns⟩:=p
  dsimp only at C0 C1
  have hkn:(k:Int)<(n:Int):=by omega
  clear c0 c1
  rcases Hw.out k _ v hp with ⟨hpar,hwk⟩|⟨a,hpar,hak,hl6,hwk⟩
  ·dsimp only at hpar
   subst hpar
   have hwf:=za (show ws.getD (n - 1) []=o.reverse by rw [hword.out,hwk];rfl)
   clear hword hwk hp
   rcases zil.2 with ⟨rfl,hol0⟩|⟨gg,cap,cur,rfl,hgg,hh,_⟩
   ·have ho:o=[]:=List.eq_nil_of_length_eq_zero hol0
    subst ho
    have hcv:∀ W,(convert 62 9 (.slice none 0 0)).run Tryz.prog W=.ok (.string ByteArray.empty) W:=fun W=>run_convert_bytes_nil (P:=Tryz.prog) W 62 5 u8_row u8_und _ _ _ zig
    go_wp2_with (go_at_call 288;refine (rev_none _).mono ?_;rintro e w' ⟨rfl,rfl⟩)
    go_ret
    exact⟨by rw [hwf.out];rfl,zin⟩
   ·have key:=rev_bytes gg 0 cap (lbs o).toArray wr (Holds.own8 zil) (by simp [lbs];omega)
    rw [show (lbs o).toArray.size=o.length by simp [lbs]] at key
    have hH:=za (Holds.own8 zil)
    go_wp2_with (go_at_call 288;refine key.mono ?_;rintro e w' ⟨rfl,hw'⟩;have hcv:=conv_rev (cap:=cap) hH.out hw';have hx:=Ext.put_some zin hgg hw';clear hw')
    go_ret
    exact⟨by rw [hwf.out];rfl,hx⟩
  ·dsimp only at hpar hwk hl6
   subst hpar
   have hwn:=za (show ws.getD (n - 1) []=ws.getD a []++(o++[l]).reverse by rw [hword.out,hwk];simp)
   clear hword hwk hp
   go_wp2_with (first
    |(go_at_call 164;refine (zgQ hl6 _).mono ?_;rintro e w' ⟨rfl,rfl⟩)
    |(at_builtin;refine zQ w wr rfl (.tmp 19) (.tmp 26) _ rfl 5 _ 1 1 Tryz.underlying62 info_u8 rfl (by decide) u3 _ _ _ _ rfl rfl zin zil rfl (zhz _) (by unfold maxLen;omega) (by omega) ?_;intro v' w1 hext1 ziv hg1 hat1))
   go_roundw
   case rel=>exact⟨a,o++[l],by omega,rfl,by simpa [u8s,lbs] using ziv,hwn,by simp;omega,by assumption⟩
   case measure=>simp [intOf];omega
def zM (w:World) (d:Nat→Nat→List Nat) (start:List Nat) (goal:Nat→Bool) (L:List Nat) (e:Ending) (w':World):Prop:=
 Ext w w'∧((∃ v,e=.returned (.tuple #[.string (strOfNums (lbs v)),.bool true])∧Found d start goal L v)∨(e=.returned (.tuple #[.string ByteArray.empty,.bool false])∧Lost d start goal L))
theorem Sea.start {w w1:World} {N:Nat} {fg:Value} {t:TypeId}(hx:Ext (w.alloc (.cells #[fg] t)) w1)(hsz:(w.alloc (.cells #[fg] t)).heap.size<w1.heap.size)(hg:Blk (w.alloc (.cells #[fg] t)) w.heap.size t #[fg]) (zil:w1.ownsRow w.heap.size 4 1 (.slice (some ⟨w.heap.size+1,0,none⟩) N N) N (zaB (List.replicate N false))) :
  Sea w ((w1.alloc (.cells #[.slice (some ⟨w.heap.size+1,0,none⟩) N N] 26)).alloc (.cells #[.slice none 0 0] 270)) w1.heap.size w.heap.size (w1.heap.size+1) (w.heap.size+1) N N fg (List.replicate N false) (.slice none 0 0) []:=by
 simp only [World.size_alloc] at hsz
 have h0:Ext w w1:=((Ext.refl w).alloc _).trans hx
 have hv:=Blk.new w1 26 #[.slice (some ⟨w.heap.size+1,0,none⟩) N N]
 have ht:=Blk.new (w1.alloc (.cells #[.slice (some ⟨w.heap.size+1,0,none⟩) N N] 26)) 270 #[.slice none 0 0]
 have hx2:Ext w1 ((w1.alloc (.cells #[.slice (some ⟨w.heap.size+1,0,none⟩) N N] 26)).alloc (.cells #[.slice none 0 0] 270)):=((Ext.refl w1).alloc _).alloc _
 refine⟨h0.trans hx2,hv.ext ((Ext.refl _).alloc _),zh zil hx2,⟨t,hg.ext (hx.trans hx2)⟩,by simpa using ht,World.ownsRow_nil _ _ _ _,fun k p v hk=>by simp at hk,by omega,Nat.le_refl _,by omega,by omega,by omega,fun b hb=>by simp [Value.ownBlock] at hb⟩
theorem sts_add {sts sts':List (Stp × Value)} {a:Int} {l:Nat} {fr:List Nat}(h:(fr=[]∧sts'=sts)∨(fr≠[]∧∃ v,sts'=sts++[(⟨a,l,fr⟩,v)])):sts'.map Prod.fst=addS (sts.map Prod.fst) a l fr:=by
 rcases h with ⟨h1,rfl⟩|⟨h1,v,rfl⟩
 ·rw [addS,if_pos h1]
 ·rw [addS,if_neg h1];simp
theorem Bfs.letters {d:Nat→Nat→List Nat} {start:List Nat} {goal:Nat→Bool} {L:List Nat} {N:Nat} {S:List Bool} {st:List Stp} {ws:List (List Nat)} {i j:Nat}(h:Bfs d start goal L N S st ws i j):∀ (m k:Nat),k≤m→k<st.length→∀ l∈ws.getD k [],l∈L:=by
 intro m
 induction m with
 |zero =>
  intro k hk hlt l hl
  obtain rfl:k=0:=by omega
  rw [h.zero _ (List.getElem?_eq_getElem hlt)] at hl
  cases hl
 |succ m ih =>
  intro k hk hlt l hl
  rcases h.word k _ (List.getElem?_eq_getElem hlt) with ⟨_,_,e⟩|⟨a,b,_,hak,_,hb,e⟩
  ·rw [e] at hl;cases hl
  ·rw [e] at hl
   rcases List.mem_append.1 hl with h1|h1
   ·exact ih a (by omega) (by omega) l h1
   ·rw [List.mem_singleton.1 h1];exact List.mem_of_getElem? hb
theorem Bfs.words {d:Nat→Nat→List Nat} {start:List Nat} {goal:Nat→Bool} {L:List Nat} {N:Nat} {S:List Bool} {st:List Stp} {ws:List (List Nat)} {i j:Nat}(h:Bfs d start goal L N S st ws i j)(hL:Rise L) {a l:Nat} {fr:List Nat}(ha:a<st.length)(hl:l∈L) (k:Nat) (p:Stp)(hp:(st++[⟨a,l,fr⟩])[k]?=some p) :
  (p.parent = -1∧(ws++[ws.getD a []++[l]]).getD k []=[])∨∃ b:Nat,p.parent=(b:Int)∧b<k∧p.letter<6∧(ws++[ws.getD a []++[l]]).getD k []=(ws++[ws.getD a []++[l]]).getD b []++[p.letter]:=by
 rcases Nat.lt_trichotomy k st.length with h1|h1|h1
 ·rw [List.getElem?_append_left h1] at hp
  rw [zeU _ (by rw [h.wl];exact h1)]
  rcases h.word k p hp with ⟨_,h2,h3⟩|⟨b,c,h2,h3,_,h4,h5⟩
  ·exact Or.inl ⟨h2,h3⟩
  ·exact Or.inr ⟨b,h2,h3,hL.1 _ (List.mem_of_getElem? h4),by rw [zeU _ (by rw [h.wl];omega)];exact h5⟩
 ·rw [h1,List.getElem?_append_right (Nat.le_refl _),Nat.sub_self] at hp
  obtain rfl:=Option.some.inj hp
  refine Or.inr ⟨a,rfl,by omega,hL.1 _ hl,?_⟩
  rw [h1,← h.wl,zgn,zeU _ (by rw [h.wl];exact ha)]
 ·rw [List.getElem?_eq_none (by simp;omega)] at hp
  cases hp
theorem Frm.out {T S:Nat→Prop} {a b c:World}(h:Frm T a b) (k:Frm S b c)(hS:∀ x,S x→T x):Frm T a c:=h.trans (k.mono fun x _ hx=>hS x hx)
set_option maxHeartbeats 16000000 in
theorem zdi {w:World} {N kn kg m c q cL:Nat} {A AL:Option Addr} {capn capg:Array Value} {goal:Nat→Bool} {d:Nat→Nat→List Nat} {start L:List Nat} {D:Nat}
  (hA:zal w A m start) (hstart:∀ n∈start,n<N) (hm:m≤1099511627776) (hL:zal w AL q L) (hrise:Rise L) (hN:N≤16777216) (hD:D≤4096)
  (hinn:∀ args W,(callFunc kn args).run Tryz.prog W=.ok (.enter kn args) W) (hin:∀ args W,(callFunc kg args).run Tryz.prog W=.ok (.enter kg args) W)
  (hgoal:∀ W,Ext w W→∀ n,n<N→Calls Tryz.prog kg (#[.int .i64 (n:Nat)]++capg) W fun e W'=>e=.returned (.bool (goal n))∧Ext W W')
  (hd:∀ n l,n<N→l∈L→(d n l).length≤D∧∀ x∈d n l,x<N)
  (hnext:∀ W,Ext w W→∀ n l,n<N→l∈L→∀ (base:Nat) (A:Option Addr) (m c:Nat) (xs:List Nat),w.heap.size≤base→base≤W.heap.size→m≤1099511627776→W.ownsRow base 3 1 (.slice A m c) m (zaq xs) →
   Calls Tryz.prog kn (#[.int .i64 (n:Nat),.int .i64 (l:Nat),.slice A m c]++capn) W fun e W'=>∃ A' c',e=.returned (.slice A' (xs++d n l).length c')∧W'.ownsRow base 3 1 (.slice A' (xs++d n l).length c') (xs++d n l).length (zaq (xs++d n l))∧Frm (fun k=>(Value.slice A m c).ownBlock=some k) W W') :
  Calls Tryz.prog 194 #[.int .i64 (N:Nat),.slice A m c,.slice AL q cL,.func (.func kn) #[] capn,.func (.func kg) #[] capg] w (zM w d start goal L):=by
 have HA:=za hA
 have Hstart:=za hstart
 have Hgoal:=za hgoal
 have Hnext:=za hnext
 have Hd:=za hd
 have hqm:q≤9223372036854775807:=hL.2.1
 clear hA hstart hgoal hnext hd
 go_enter Tryz.func194,Tryz.ntmps194
 have hwa:Ext w (w.alloc (.cells #[.func (.func kg) #[] capg] 169)):=(Ext.refl w).alloc _
 have hgx:=za (Blk.new w 169 #[.func (.func kg) #[] capg])
 go_upto_region 4 with (at_make;refine zbX w _ rfl _ _ 26 rfl 4 _ 1 1 Tryz.underlying26 zaX _ _ N rfl rfl hwa (by omega) (by unfold maxLen;omega) ?_;intro w1 hext1 ziv hx1 hsz1)
 have ziw:w1.ownsRow w.heap.size 4 1 (.slice (some ⟨w.heap.size+1,0,none⟩) N N) N (zaB (List.replicate N false)):=by
  have h:=ziv
  rw [World.size_alloc] at h
  simpa [zaB,Value.cells,toList_madeCells_one] using h
 have hsea:=Sea.start hx1 hsz1 hgx.out ziw
 have hx2:Ext w ((w1.alloc (.cells #[.slice (some ⟨w.heap.size+1,0,none⟩) N N] 26)).alloc (.cells #[.slice none 0 0] 270)):=(hext1.alloc _).alloc _
 clear ziv ziw hx1 hsz1 hgx hext1 hwa
 generalize w1.heap.size+1=bt at *
 generalize w1.heap.size=bs at *
 generalize (w1.alloc (.cells #[.slice (some ⟨w.heap.size+1,0,none⟩) N N] 26)).alloc (.cells #[.slice none 0 0] 270)=w2 at *
 have hvs:=zgh (List.replicate N false) start (fun n hn=>by have:=Hstart.out n hn;simpa using this)
 cases hg:(vis (List.replicate N false) start).2.any goal
 ·have Hg:=za hg
  have hB:=za (Bfs.begin_ (d:=d) (L:=L) (goal:=goal) Hstart.out (fun x hx=>by
   cases hgx:goal x
   ·rfl
   ·rw [List.any_eq_true.2 ⟨x,hx,hgx⟩] at hg;cases hg))
  have hC:=za ((Cnt.nil N).add (-1) 0 start)
  clear hg hvs
  go_wp2_with (go_at_call 262;refine (zgL (letter:=0) (parent := -1) hsea (HA.out.ext hx2) Hstart.out hm (by simp) hin Hgoal.out).mono ?_;rintro e w3 ⟨rfl,hx3,hsz3,vst,sts,hsea3,hcase⟩;rw [Hg.out];have hst:=za (sts_add hcase);clear hcase)
  go_loopw [15,17,18,20] (fun i l r x wr=>∃ (k:Nat) (S:List Bool) (vst:Value) (sts:List (Stp × Value)) (ws:List (List Nat)),i=.int .i64 k∧k≤sts.length∧sts.length≤N∧Sea w wr bs w.heap.size bt (w.heap.size+1) N N (.func (.func kg) #[] capg) S vst sts∧Hid (Bfs d start goal L N S (sts.map Prod.fst) ws k 0)∧Hid (Cnt S (sts.map Prod.fst)))
   (fun i _ _ _ _=>N+1 - (intOf i).toNat)
  case atStart =>
   simp only [List.map_nil] at hst
   have hB':=hB.out
   have hC':=hC.out
   rw [← hst.out] at hB' hC'
   exact⟨0,_,vst,sts,_,rfl,Nat.zero_le _,by have:=hC'.steps hB'.some_;rw [hB'.len] at this;simpa using this,hsea3,za hB',za hC'⟩
  case round =>
   clear hsea3 hst hB hC hx3 hsz3
   clear vst sts
   obtain⟨k,S,vst,sts,ws,rfl,hk,hsN,hS,hB,hC⟩:=hrel
   obtain⟨Av,cv,rfl⟩:=zg hS.dt
   have cT:=hS.vt.cell 0
   by_cases hlt:k<sts.length
   ·have hcast:((k:Int)<(sts.length:Int)):=by omega
    go_wp2
    go_loopw [17,18,20,35] (fun _ _ _ i2 wi=>∃ (j:Nat) (S:List Bool) (vst:Value) (sts:List (Stp × Value)) (ws:List (List Nat)),i2=.int .i64 j∧j≤q∧k<sts.length∧sts.length≤N∧Sea w wi bs w.heap.size bt (w.heap.size+1) N N (.func (.func kg) #[] capg) S vst sts∧Hid (Bfs d start goal L N S (sts.map Prod.fst) ws k j)∧Hid (Cnt S (sts.map Prod.fst)))
     (fun _ _ _ i2 _=>q - (intOf i2).toNat)
    case atStart=>exact⟨0,S,_,sts,ws,rfl,Nat.zero_le _,hlt,hsN,hS,hB,hC⟩
    case round =>
     clear hS hB hC cT hlt hcast hk hsN
     rename World=>wi
     obtain⟨j,S,vst,sts,ws,rfl,hj,hk,hsN,hS,hB,hC⟩:=hrel
     by_cases hjq:j<q
     ·obtain⟨gl,ol,l,rfl,hxl,hcl⟩:=hL.at_ hjq
      have cL:wi.cell? ⟨gl,ol+j,none⟩=some (.int .i64 (l:Nat)):=hS.ext.cell_some hcl
      have hlL:=za (List.mem_of_getElem? hxl.out)
      obtain⟨⟨⟨pp,pl,pn⟩,vk⟩,hpk⟩:∃ x,Hid (sts[k]?=some x):=⟨_,List.getElem?_eq_getElem hk⟩
      obtain⟨Ak,ck,rfl,hnk⟩:=hS.nd k _ vk hpk.out
      dsimp only at hnk hpk
      have hpm:=za (show (sts.map Prod.fst)[k]?=some ⟨pp,pl,pn⟩ by rw [List.getElem?_map,hpk.out];rfl)
      have hne:=List.length_pos_iff.2 (hB.out.some_ k _ hpm.out)
      have hnN:pn.length≤N:=by have:=hC.out.nodes hpm.out;rw [hB.out.len] at this;exact this
      have hsmall:=za (hB.out.small k _ hpm.out)
      dsimp only at hne hsmall
      have cV:wi.cell? ⟨bt,0,none⟩=some vst:=hS.vt.cell 0
      obtain⟨Av,cv,rfl⟩:=zg hS.dt
      obtain⟨gv,rfl⟩:∃ gv,Av=some ⟨gv,0,none⟩:=by
       rcases hS.dt.2 with ⟨_,hh⟩|⟨g,cap,cur,hv,_⟩
       ·omega
       ·exact⟨g,by injection hv⟩
      obtain⟨mk,hmk⟩:∃ mk,Hid (mk=pn.length):=⟨_,rfl⟩
      have cK:wi.cell? ⟨gv,k*3+2,none⟩=some (.slice Ak mk ck):=by
       rw [hS.dt.cellAt _ (by omega),hmk.out]
       exact (zgH hpk.out).2.2
      rw [← hmk.out] at hnk hne hnN
      obtain⟨gk,ok,_,rfl,_,_⟩:=hnk.at_ hne
      have Hnk:=za hnk
      have h1:=hS.vs.lt
      have h2:w.heap.size<wi.heap.size:=by obtain⟨t,hh⟩:=hS.vg;exact hh.lt
      have h3:=hS.vt.lt
      have h4:=hS.gs_lt.2
      have h0:=hS.ext.size
      have HnI:=za (show ∀ b,wi.heap.size≤b→∀ cs,wi.heap[b]?≠some (.cells cs 3 (0,0)) from fun b hb cs hc=>by
       have:=(Array.getElem?_eq_some_iff.1 hc).1
       omega)
      have hvl:=(hS.dt.lt gv rfl).2
      have HSea:=za (fun W (hW:Frm (fun b=>wi.heap.size≤b) wi W)=>hS.far hW (fun _ h=>h) h1 h2 h3 h4 (fun b hb=>by have:gv=b:=(by simpa [Value.ownBlock] using hb);omega) h0 (hS.nd.frm hW HnI.out))
      have hkc:(k:Int)<(sts.length:Int):=by omega
      have hjc:(j:Int)<(q:Int):=by omega
      clear hnk hcl hS h1 h3 h4
      go_wp2_with fail
      go_loopw [18,20,45] (fun v _ i3 wr=>∃ i:Nat,i3=.int .i64 i∧i≤mk∧wr.ownsRow wi.heap.size 3 1 v (reach d l (pn.take i)).length (zaq (reach d l (pn.take i)))∧Frm (fun b=>wi.heap.size≤b) wi wr) (fun _ _ i3 _=>mk - (intOf i3).toNat)
      case atStart=>exact⟨0,rfl,Nat.zero_le _,World.ownsRow_nil _ _ _ _,Frm.refl _ _⟩
      case round =>
       obtain⟨i,rfl,hi,zil,hfr⟩:=hrel
       have hSr:=za (HSea.out wr hfr)
       have hsz:=hfr.size
       have hrl:(reach d l (pn.take i)).length≤1099511627776 - 4096:=by
        have e1:=reach_len (d:=d) (l:=l) (D:=D) (ns:=pn.take i) (fun n hn=>(Hd.out n l (hsmall.out n (List.mem_of_mem_take hn)) hlL.out).1)
        have e2:=Nat.mul_le_mul (show (pn.take i).length≤16777216 by rw [List.length_take];omega) hD
        omega
       obtain⟨A0,c0,rfl⟩:=zg zil
       clear cL cV cK
       by_cases hil:i<mk
       ·obtain⟨g',o',n,hA',hn,cN⟩:=(Hnk.out.frm hfr HnI.out).at_ hil
        obtain⟨rfl,rfl⟩:gk=g'∧ok=o':=by injection hA' with e;injection e with e1 e2;exact⟨e1,e2⟩
        have hnlt:=hsmall.out n (List.mem_of_getElem? hn.out)
        have hnx:=za (Hnext.out wr hSr.out.ext n l hnlt hlL.out wi.heap.size A0 _ c0 _ h0 hsz (by omega) zil)
        clear hA'
        go_wp2_with fail
        refine hnx.out.mono ?_
        rintro e w4 ⟨A',c',rfl,hown4,hf4⟩
        have hlow:=za (fun b (hb:(Value.slice A0 (reach d l (pn.take i)).length c0).ownBlock=some b)=>(zil.lt b hb).1)
        go_wp2_with fail
        go_roundw
        case rel=>exact⟨i+1,by go_num,by omega,by rw [reach_take hn.out];rw [List.length_append] at hown4 ⊢;exact hown4,hfr.out hf4 hlow.out⟩
        case measure=>simp [intOf];omega
       ·obtain rfl:i=mk:=by omega
        have htk:pn.take i=pn:=List.take_of_length_le (by have:=hmk.out;omega)
        rw [htk] at zil hrl ⊢
        have hrs:=za (fun x (hx:x∈reach d l pn)=>by
         obtain⟨n,hn,hx⟩:=zgu.1 hx
         exact (Hd.out n l (hsmall.out n hn) hlL.out).2 x hx)
        have hvis:=za (zgL (letter:=l) (parent:=(k:Int)) (c:=c0) hSr.out (zal.own zil) hrs.out (by omega) (by omega) hin Hgoal.out)
        cases hg:(vis S (reach d l pn)).2.any goal
        ·have Hg:=za hg
         have hB':=za (hB.out.step hrise hpm.out hxl.out (fun x=>zgu) hrs.out (fun x hx=>by
          cases hgx:goal x
          ·rfl
          ·rw [List.any_eq_true.2 ⟨x,hx,hgx⟩] at hg;cases hg))
         have hC':=za (hC.out.add (k:Int) l (reach d l pn))
         clear hg
         go_wp2_with fail
         refine hvis.out.mono ?_
         rintro e w4 ⟨rfl,hx4,hsz4,vst4,sts4,hsea4,hcase⟩
         rw [Hg.out]
         have hst:=za (sts_add hcase)
         have hlen:sts.length≤sts4.length:=by
          rcases hcase with ⟨_,rfl⟩|⟨_,v,rfl⟩<;>simp
         rw [← hst.out] at hB' hC'
         go_wp2_with fail
         go_roundw
         case rel=>exact⟨j+1,_,vst4,sts4,_,by go_num,by omega,by omega,(by have:=hC'.out.steps hB'.out.some_;rw [hB'.out.len] at this;simpa using this),hsea4,hB',hC'⟩
         case measure=>simp [intOf];omega
        ·have Hg:=za hg
         obtain⟨x,hx,hgx⟩:=List.any_eq_true.1 hg
         have hxr:=((zgh S (reach d l pn) (fun n hn=>by rw [hB.out.len];exact hrs.out n hn)).2.2 x).1 hx
         obtain⟨n,hn,hxd⟩:=zgu.1 hxr.1
         have hF:=za (show Found d start goal L (ws.getD k []++[l]) from ⟨fun m hm=>(by
          rcases List.mem_append.1 hm with h|h
          ·exact hB.out.letters k k (Nat.le_refl _) (by simpa using hk) m h
          ·rw [List.mem_singleton.1 h];exact hlL.out),⟨x,(hB.out.goes k _ hpm.out n hn).snoc hxd,hgx⟩,fun u hu hlt y hy=>hB.out.found hrise (by simpa using hk) hxl.out hu hlt hy⟩)
         clear hg hgx hxr hxd
         go_wp2_with fail
         refine hvis.out.mono ?_
         rintro e w4 ⟨rfl,hx4,hsz4,vst4,sts4,hsea4,hcase⟩
         rw [Hg.out]
         obtain⟨_,v4,hst4⟩:(vis S (reach d l pn)).2≠[]∧∃ v,sts4=sts++[(⟨(k:Int),l,(vis S (reach d l pn)).2⟩,v)]:=by
          rcases hcase with ⟨h,_⟩|h
          ·rw [h] at hx;cases hx
          ·exact h
         have hl4:sts4.length=sts.length+1:=by rw [hst4];simp
         obtain⟨A4,c4,rfl⟩:=zg hsea4.dt
         have cV4:=hsea4.vt.cell 0
         have hpw:=za (show Calls Tryz.prog 263 #[.slice A4 sts4.length c4] w4 fun e w'=>e=.returned (.string (strOfNums (lbs (ws.getD k []++[l]))))∧Ext w4 w' by
          have key:=pathWord_any (ws:=ws++[ws.getD k []++[l]]) hsea4.dt rfl (by omega) (by omega) (fun i p v hi=>by
           have hm:(sts4.map Prod.fst)[i]?=some p:=by rw [List.getElem?_map,hi];rfl
           rw [hst4,List.map_append] at hm
           exact hB.out.words hrise (by simpa using hk) hlL.out i p hm)
          rw [hl4,Nat.add_sub_cancel,show sts.length=ws.length by have:=hB.out.wl;simpa using this.symm,zgn] at key
          rw [hl4,show sts.length=ws.length by have:=hB.out.wl;simpa using this.symm]
          exact key)
         clear hx hcase hst4 hl4
         go_wp2_with fail
         refine hpw.out.mono ?_
         rintro e w5 ⟨rfl,hx5⟩
         go_wp2_with fail
         go_ret2
         exact⟨hx4.trans hx5,Or.inl ⟨_,rfl,hF.out⟩⟩
     ·obtain rfl:j=q:=by omega
      have hql:=hL.1
      have hB2:=za (hB.out.row (by omega))
      go_wp2
      go_roundw
      case rel=>exact⟨k+1,S,vst,sts,ws,by go_num,by omega,hsN,hS,hB2,hC⟩
      case measure=>simp [intOf];omega
   ·obtain rfl:k=sts.length:=by omega
    have hlost:=za (show Lost d start goal L from fun v hv x hx=>hB.out.none (by simp) hv hx)
    have hxr:=hS.ext
    go_wp2
    go_ret2
    exact⟨hxr,Or.inr ⟨rfl,hlost.out⟩⟩
 ·have Hg:=za hg
  obtain⟨x,hx,hgx⟩:=List.any_eq_true.1 hg
  have hF:=za (show Found d start goal L [] from ⟨fun l hl=>(by cases hl),⟨x,.nil ((hvs.2.2 x).1 hx).1,hgx⟩,fun u _ hu=>by rw [zfo] at hu;omega⟩)
  clear hg hvs
  go_wp2_with (go_at_call 262;refine (zgL (letter:=0) (parent := -1) hsea (HA.out.ext hx2) Hstart.out hm (by simp) hin Hgoal.out).mono ?_;rintro e w' ⟨rfl,hx3,_⟩;rw [Hg.out])
  go_ret2
  exact⟨hx3,Or.inl ⟨[],rfl,hF.out⟩⟩
theorem stepB_low {es:List Edg} {k0 x j:Nat}(hf:Few k0 es)(hb:x.testBit j=true)(hl:∀ i,i<j→x.testBit i=false) (l:Int):zbE es x l=succ es j l|||zbE es (x - 2 ^ j) l:=by
 apply Nat.eq_of_testBit_eq
 intro k
 rw [Nat.testBit_or,Bool.eq_iff_iff,Bool.or_eq_true,zdb,zdb,zdu]
 constructor
 ·rintro ⟨e,he,⟨h1,h2⟩,h3⟩
  have:=hf e he
  by_cases e1:e.fr.toNat=j
  ·exact Or.inl ⟨e,he,⟨by omega,h1⟩,h3⟩
  ·refine Or.inr ⟨e,he,⟨h1,?_⟩,h3⟩
   rw [zcz hb hl,h2]
   simp [e1]
 ·rintro (⟨e,he,⟨h1,h2⟩,h3⟩|⟨e,he,⟨h1,h2⟩,h3⟩)
  ·exact⟨e,he,⟨h2,by rw [h1];exact hb⟩,h3⟩
  ·rw [zcz hb hl] at h2
   simp only [Bool.and_eq_true] at h2
   exact⟨e,he,⟨h1,h2.1⟩,h3⟩
theorem zht (es:List Edg) (l:Int):zbE es 0 l=0:=by
 apply Nat.eq_of_testBit_eq
 intro k
 rw [Nat.zero_testBit,Bool.eq_false_iff]
 intro h
 obtain⟨e,_,⟨_,h2⟩,_⟩:=(zdb es 0 l k).1 h
 simp at h2
theorem impl_step {es:List Edg} {bm k0 set l:Nat} {w:World}(hm:MovAt w bm es)(hT:Tab w)(hset:set<2 ^ 16)(hl:l<6)(hf:Few k0 es)(hk0:k0≤16) :
  Calls Tryz.prog 265 #[.pointer (some ⟨bm,0,none⟩),.int .i64 set,.int .i64 l] w fun e w'=>e=.returned (.int .i64 (zbE es set l:Nat))∧Ext w w':=by
 have hset':set<65536:=by simpa using hset
 have Hf:=za hf
 clear hf
 go_enter Tryz.func265,Tryz.ntmps265
 go_wp2
 go_loopw [1,7] (fun s v wr=>∃ x:Nat,s=.int .i64 x∧x<65536∧∃ y:Nat,v=.int .i64 y∧Sm y∧Hid (zbE es set l=y|||zbE es x l)∧Ext w wr) (fun s _ _=>(intOf s).toNat)
 case atStart=>exact⟨set,rfl,hset',0,rfl,by unfold Sm;omega,by simp [Hid],Ext.refl _⟩
 case round =>
  obtain⟨x,rfl,hx,y,rfl,hy,hyo,zin⟩:=hrel
  by_cases h0:x=0
  ·subst h0
   go_wp2
   go_ret
   have h1:=hyo.out
   rw [zht,Nat.or_zero] at h1
   exact⟨zB (by rw [h1]),zin⟩
  ·have hxs:Sm x:=by unfold Sm;omega
   obtain⟨j,hj,hj32,hjb,hjl,hand,hle⟩:=lowest h0 hxs
   have hj16:j<16:=by
    rcases Nat.lt_or_ge j 16 with h|h
    ·exact h
    ·have:=Nat.pow_le_pow_right (n:=2) (by omega) h
     omega
   have hp:=Nat.two_pow_pos j
   have hlow:=za (stepB_low Hf.out hjb hjl l)
   have c1:=hm j l hj16 hl
   have cM:∀ W,Ext wr W→W.cell? ⟨bm,j*6+l,none⟩=some (.int .i64 (succ es j l:Nat)):=fun W hW=>(zin.trans hW).cell_some c1
   have hTs:=za (fun W (hW:Ext wr W)=>hT.ext (zin.trans hW))
   have s1:=succ_sm Hf.out hk0 j l
   have bo:=za (zbG hy s1)
   have hne:((x:Int) != 0)=true:=by simp;omega
   have hb:=za (zcl (a:=x) (b:=x - 1) hxs (by unfold Sm;omega))
   have hi:=za (show ((x:Int) - 1)=((x - 1:Nat):Int) by omega)
   have ux:IntKind.u64.wrap (x:Int)=x:=by rw [IntKind.wrap_u64];omega
   have htz:=za (fun W (hW:Ext wr W)=>(show Calls Tryz.prog 289 #[.int .u64 x] W fun e w'=>e=.returned (.int .i64 j)∧W=w' by rw [← hj];exact tz x (by omega) h0 W (hTs.out W hW)))
   have hww:=Ext.refl wr
   have hx1:x - 2 ^ j<x:=by omega
   have hx2:x&&&(x - 1)=x - 2 ^ j:=hand
   have Hx2:=za hx2
   have hl6:(l:Int)<6:=by omega
   have hj16':(j:Int)<16:=by omega
   clear hj hjb hjl hand hx2 h0 hle c1
   generalize succ es j l=z at *
   go_wp2_with fail
   go_region_held3 (fun W=>Ext wr W) (first|assumption|(refine Ext.drew ?_;assumption)|(refine Ext.trans ?_ (by assumption);assumption)|(refine Ext.trans ?_ (by assumption);refine Ext.drew ?_;assumption)) ((go_at_call 289;refine (htz.out _ ?_).mono ?_;(first|assumption|(refine Ext.drew ?_;assumption));rintro e w' ⟨rfl,rfl⟩))
   go_wp2_with fail
   go_roundw
   case rel=>exact⟨x&&&(x - 1),by rw [hi.out,hb.out],by rw [Hx2.out];omega,y|||z,by rw [bo.out],hy.or s1,by unfold Hid;rw [hyo.out,hlow.out,Hx2.out,Nat.or_assoc],zin.trans (by assumption)⟩
   case measure =>
    have:=hb.out
    rw [← hi.out] at this
    have h3:=Hx2.out
    simp [intOf]
    omega
theorem zdH (a:Nat):Rise (letters a 6):=by
 refine⟨fun l hl=>(zbT.1 hl).1,fun i j x y hx hy hij=>?_⟩
 have h1:(letters a 6).Pairwise (·<·):=List.Pairwise.filter _ List.pairwise_lt_range
 obtain⟨hi,rfl⟩:=List.getElem?_eq_some_iff.1 hx
 obtain⟨hj,rfl⟩:=List.getElem?_eq_some_iff.1 hy
 exact List.pairwise_iff_getElem.1 h1 i j hi hj hij
theorem Blk.ne {w:World} {a b:Nat} {t u:TypeId} {cs ds:Array Value}(h:Blk w a t cs)(h':Blk w b u ds)(ht:t≠u):a≠b:=by
 rintro rfl
 unfold Blk at h h'
 rw [h] at h'
 injection h' with h'
 injection h' with _ h2
 exact ht h2
theorem zck {w:World} {g x:Nat}(h:Blk w g 3 #[.int .i64 (x:Nat)]):zal w (some ⟨g,0,none⟩) 1 [x]:=by
 refine⟨rfl,by omega,fun _=>⟨g,0,_,rfl,h,fun j y hj=>?_⟩⟩
 cases j with
 |zero =>
  obtain rfl:=Option.some.inj hj
  rw [h.cell];rfl
 |succ j=>simp at hj
theorem rising_pw {es:List Edg}:Rising es↔es.Pairwise (fun x y=>ltE x y=true):=by
 rw [List.pairwise_iff_getElem]
 constructor
 ·intro h i j hi hj hij
  exact h i j _ _ (List.getElem?_eq_getElem hi) (List.getElem?_eq_getElem hj) hij
 ·intro h a b x y hx hy hab
  obtain⟨ha,rfl⟩:=List.getElem?_eq_some_iff.1 hx
  obtain⟨hb,rfl⟩:=List.getElem?_eq_some_iff.1 hy
  exact h a b ha hb hab
theorem zhl (a k:Nat):(letters a k).Pairwise (·<·):=List.Pairwise.filter _ List.pairwise_lt_range
theorem asc_ext:∀ {l m:List Nat},l.Pairwise (·<·)→m.Pairwise (·<·)→(∀ x,x∈l↔x∈m)→l=m:=by
 intro l
 induction l with
 |nil =>
  intro m _ _ h
  cases m with
  |nil=>rfl
  |cons y s=>exact absurd ((h y).2 (by simp)) (by simp)
 |cons x r ih =>
  intro m hl hm h
  cases m with
  |nil=>exact absurd ((h x).1 (by simp)) (by simp)
  |cons y s =>
   rw [List.pairwise_cons] at hl hm
   have e:x=y:=by
    have h1:=(h x).1 (by simp)
    have h2:=(h y).2 (by simp)
    rcases List.mem_cons.1 h1 with h1|h1
    ·exact h1
    ·rcases List.mem_cons.1 h2 with h2|h2
     ·exact h2.symm
     ·have:=hl.1 y h2
      have:=hm.1 x h1
      omega
   subst e
   rw [ih hl.2 hm.2 fun z=>?_]
   have hz:=h z
   simp only [List.mem_cons] at hz
   constructor
   ·intro h1
    have:=hl.1 z h1
    rcases hz.1 (Or.inr h1) with h2|h2
    ·omega
    ·exact h2
   ·intro h1
    have:=hm.1 z h1
    rcases hz.2 (Or.inr h1) with h2|h2
    ·omega
    ·exact h2
def chE (es:List Edg) (q l:Nat):List Nat:=(es.filter fun e=>e.fr==(q:Int)&&e.le==(l:Int)).map fun e=>e.ta.toNat
theorem chE_cho {p:Nat} {es:List Edg}(hf:Few p es)(hp:p≤16)(hr:Rising es) (q l:Nat):chE es q l=letters (succ es q l) 32:=by
 refine asc_ext ?_ (zhl _ _) fun x=>?_
 ·have h1:=rising_pw.1 hr
  rw [chE,List.pairwise_map,List.pairwise_filter]
  refine h1.imp_of_mem fun {a b} ha hb hab h2 h3=>?_
  simp only [Bool.and_eq_true,beq_iff_eq] at h2 h3
  have:=ltE_iff.1 hab
  have:=hf a ha
  have:=hf b hb
  omega
 ·rw [zF,zdu,chE,List.mem_map]
  simp only [List.mem_filter,Bool.and_eq_true,beq_iff_eq]
  constructor
  ·rintro ⟨e,⟨h1,h2⟩,rfl⟩
   have:=hf e h1
   exact⟨by omega,e,h1,h2,rfl⟩
  ·rintro ⟨_,e,h1,h2,rfl⟩
   exact⟨e,⟨h1,h2⟩,rfl⟩
theorem chE_take {es:List Edg} {k:Nat} {x:Edg}(h:es[k]?=some x) (q l:Nat):chE (es.take (k+1)) q l=chE (es.take k) q l++if x.fr=(q:Int)∧x.le=(l:Int) then [x.ta.toNat] else []:=by
 rw [List.take_add_one,h]
 unfold chE
 rw [Option.toList_some,List.filter_append,List.map_append]
 congr 1
 by_cases hc:x.fr=(q:Int)∧x.le=(l:Int)
 ·rw [if_pos hc];simp [hc]
 ·rw [if_neg hc]
  have:(x.fr==(q:Int)&&x.le==(l:Int))=false:=by
   rw [Bool.eq_false_iff]
   intro h
   simp only [Bool.and_eq_true,beq_iff_eq] at h
   exact hc h
  simp [this]
theorem chE_len {p:Nat} {es:List Edg}(hf:Few p es)(hp:p≤16)(hr:Rising es) (q l k:Nat):(chE (es.take k) q l).length≤16:=by
 have h1:(chE (es.take k) q l).Sublist (chE es q l):=((List.take_sublist k es).filter _).map _
 refine Nat.le_trans h1.length_le (Nat.le_trans (zcV (p:=p) ?_ ?_) hp)
 ·rw [chE_cho hf hp hr];exact zfb _ _
 ·intro x hx
  obtain⟨e,he,rfl⟩:=List.mem_map.1 hx
  have:=hf e (List.mem_filter.1 he).1
  omega
theorem ret_one {w W:World} {y g:Nat}(hx:Ext w W)(hb:Blk W g 3 #[.int .i64 (y:Nat)])(hg:w.heap.size≤g):zbF w [y] (.returned (.slice (some ⟨g,0,none⟩) 1 1)) W:=
 ⟨some ⟨g,0,none⟩,1,rfl,⟨rfl,.inr ⟨g,1,_,rfl,hg,hb,by simp [zaq,maxLen]⟩⟩,hx⟩
theorem zgY {PA AA:Option Addr} {pn pc an ac:Nat} {sv:Value} {L K G:Int} {ss:List Sys} {us:List Aut} {w:World} {i q l:Nat} {m:Mem}(h:zeR w PA pn AA an ss us)(hok:zdd ss us)(hm:(zbc ss us)[i]?=some m)(hq:q<m.1)(hl:l<6) :
  Calls Tryz.prog 291 #[.agg #[.slice PA pn pc,.slice AA an ac,sv,.int .i64 L,.int .i64 K,.int .i64 G],.int .i64 i,.int .i64 q,.int .i64 l] w (zbF w (m.2 q l)):=by
 have hw1:Ext w (w.alloc (.cells #[.slice PA pn pc,.slice AA an ac,sv,.int .i64 L,.int .i64 K,.int .i64 G] 168)):=(Ext.refl w).alloc _
 have hb1:=Blk.new w 168 #[.slice PA pn pc,.slice AA an ac,sv,.int .i64 L,.int .i64 K,.int .i64 G]
 have HN:=za (fun W (hW:Ext w W)=>h.ext hW)
 have hpn:Hid (pn=ss.length):=by obtain⟨_,_,h1⟩:=h.sys;exact h1.1
 have han:Hid (an=us.length):=by obtain⟨_,_,h1⟩:=h.aut;exact h1.1
 have hp3:pn≤3:=by rw [hpn.out];exact hok.few
 have ha2:an≤2:=by rw [han.out];exact hok.few'
 by_cases hip:i<pn
 ·have hs:ss[i]?=some (ss[i]'(by rw [← hpn.out];exact hip)):=List.getElem?_eq_getElem _
  generalize ss[i]'(by rw [← hpn.out];exact hip)=s at hs
  obtain rfl:m=zeI s:=by
   rw [zbc,List.getElem?_append_left (by simp;have:=hpn.out;omega),List.getElem?_map,hs] at hm
   exact (Option.some.inj hm).symm
  have hv:=hok.sys s (List.mem_of_getElem? hs)
  obtain⟨hal,hst,_,hris⟩:=valid_iff.1 hv
  obtain⟨p,hp,hp1,hp2,hf⟩:=zbP hv
  obtain⟨al,ha⟩:∃ al:Nat,Hid (s.al=al):=⟨s.al.toNat,by unfold Hid;omega⟩
  have hsm:Sm al:=by have:=ha.out;unfold Sm;omega
  have hres:=za (show (zeI s).2 q l=if al.testBit l then chE s.edges q l else [q] by
   rw [chE_cho hf hp2 hris]
   simp only [zeI,cho]
   rw [ha.out,Int.toNat_natCast])
  have Hs:=za hs
  have H16:=za (chE_len hf hp2 hris q l)
  have Hf:=za hf
  clear hs hv hal hst hris hf hm hok h hq
  rw [hres.out]
  cases hb:al.testBit l
  ·have Hb:=za hb
   clear hb
   go_enter Tryz.func291,Tryz.ntmps291
   go_upto_region 1 with fail
   generalize w.alloc (.cells #[.slice PA pn pc,.slice AA an ac,sv,.int .i64 L,.int .i64 K,.int .i64 G] 168)=w1 at *
   have c0:=hb1.cell
   obtain⟨lo,hi,hsl⟩:=(HN.out w1 hw1).sys
   obtain⟨b,o,s',B,n,c',rfl,_,_,hs',e0,e1,e2,hsx⟩:=hsl.sys hip
   obtain rfl:s=s':=by have:=hs'.out;rw [Hs.out] at this;exact Option.some.inj this
   rw [ha.out] at e0
   clear e1 hsl hsx
   go_wp2_with (go_at_call 144;with_reducible refine (zat al l hsm _ (by omega)).mono ?_;rw [Hb.out];rintro e w' ⟨rfl,rfl⟩)
   go_ret
   exact ret_one (hw1.alloc _) (Blk.new _ _ _) hw1.size
  ·have Hb:=za hb
   clear hb
   simp only [if_true]
   go_enter Tryz.func291,Tryz.ntmps291
   go_upto_region 1 with fail
   generalize w.alloc (.cells #[.slice PA pn pc,.slice AA an ac,sv,.int .i64 L,.int .i64 K,.int .i64 G] 168)=w1 at *
   have c0:=hb1.cell
   obtain⟨lo,hi,hsl⟩:=(HN.out w1 hw1).sys
   obtain⟨b,o,s',B,n,c',rfl,_,_,hs',e0,e1,e2,hsx⟩:=hsl.sys hip
   obtain rfl:s=s':=by have:=hs'.out;rw [Hs.out] at this;exact Option.some.inj this
   rw [ha.out] at e0
   have Hnl:=za hsx.1
   have HR:=za (fun W (hW:Ext w1 W)=>hsx.2.ext hW)
   have hnm:=hsx.2.len
   clear e1 hsl hsx
   go_upto_region 6 with (go_at_call 144;with_reducible refine (zat al l hsm _ (by omega)).mono ?_;rw [Hb.out];rintro e w' ⟨rfl,rfl⟩)
   have hx2:=(Ext.refl w1).alloc (.cells #[] 3)
   have hsz2:w.heap.size≤w1.heap.size:=hw1.size
   have ziw:=World.ownsRow_lit (base:=w1.heap.size) (e:=3) (size:=1) w1 #[] 0 (Nat.le_refl _) (by unfold maxLen;omega) rfl
   have c0':=(hb1.ext hx2).cell
   have e2':=hx2.cell_some e2
   generalize w1.alloc (.cells #[] 3)=w2 at *
   clear c0 e0 e2
   go_wp2_with fail
   go_loopw [9,11] (fun v j wr=>∃ k:Nat,k≤n∧j=.int .i64 k∧wr.ownsRow w1.heap.size 3 1 v (chE (s.edges.take k) q l).length (zaq (chE (s.edges.take k) q l))∧Ext w1 wr) (fun _ j _=>n - (intOf j).toNat)
   case atStart=>exact⟨0,Nat.zero_le _,rfl,ziw,hx2⟩
   case round =>
    clear ziw c0' e2' hx2
    obtain⟨k,hk,rfl,zil,hx⟩:=hrel
    by_cases hlt:k<n
    ·obtain⟨b',o',x,rfl,_,_,hxx,d0,d1,d2⟩:=(HR.out wr hx).edge hlt
     obtain⟨⟨f0,f1⟩,⟨l0,l1⟩,⟨t0,t1⟩⟩:=Hf.out x (List.mem_of_getElem? hxx.out)
     have Htk:=za (chE_take hxx.out q l)
     have hck':=H16.out k
     by_cases hfr:x.fr=(q:Int)
     ·by_cases hle:x.le=(l:Int)
      ·obtain⟨t,ht⟩:∃ t:Nat,x.ta=t:=⟨x.ta.toNat,by omega⟩
       rw [hfr] at d0
       rw [hle] at d1
       rw [ht] at d2
       have Htk2:=za (show chE (s.edges.take (k+1)) q l=chE (s.edges.take k) q l++[t] by rw [Htk.out,if_pos ⟨hfr,hle⟩,ht];rfl)
       clear hfr hle f0 f1 l0 l1 t0 t1 ht Htk
       generalize chE (s.edges.take k) q l=cs at *
       go_wp2_with (at_builtin;refine zQ w1 wr rfl _ _ _ rfl 3 _ 1 8 Tryz.underlying137 zY rfl (by decide) u9 _ _ _ _ rfl rfl hx zil rfl (zaI _) (by unfold maxLen;omega) (by omega) ?_;intro v' w5 hext5 ziy hg5 hat5)
       go_roundw
       case rel=>exact⟨k+1,by omega,by go_num,by rw [Htk2.out,List.length_append,zdI];exact ziy,hext5⟩
       case measure=>simp [intOf];omega
      ·have hne:(x.le==(l:Int))=false:=by simp;omega
       have Htk2:=za (show chE (s.edges.take (k+1)) q l=chE (s.edges.take k) q l by rw [Htk.out,if_neg (fun h=>hle h.2),List.append_nil])
       rw [hfr] at d0
       clear hfr hle f0 f1 l0 l1 t0 t1 Htk
       go_wp2_with fail
       go_roundw
       case rel=>exact⟨k+1,by omega,by go_num,by rw [Htk2.out];exact zil,hx⟩
       case measure=>simp [intOf];omega
     ·have hne:(x.fr==(q:Int))=false:=by simp;omega
      have Htk2:=za (show chE (s.edges.take (k+1)) q l=chE (s.edges.take k) q l by rw [Htk.out,if_neg (fun h=>hfr h.1),List.append_nil])
      clear hfr f0 f1 l0 l1 t0 t1 Htk
      go_wp2_with fail
      go_roundw
      case rel=>exact⟨k+1,by omega,by go_num,by rw [Htk2.out];exact zil,hx⟩
      case measure=>simp [intOf];omega
    ·obtain rfl:n=k:=by omega
     have zio:=za (show wr.ownsRow w.heap.size 3 1 u9 (chE s.edges q l).length (zaq (chE s.edges q l)) by
      rw [List.take_of_length_le (by have:=Hnl.out;omega)] at zil
      exact zn zil hsz2)
     obtain⟨A5,c5,rfl⟩:=zg zio.out
     have hxw:=hw1.trans hx
     clear zil
     go_wp2
     go_ret
     exact⟨_,_,rfl,zio.out,hxw⟩
 ·obtain⟨j,hj⟩:∃ j,i=pn+j:=⟨i - pn,by omega⟩
  subst hj
  have hmj:us[j]?.map zdB=some m:=by
   rw [zbc,List.getElem?_append_right (by simp;have:=hpn.out;omega),List.getElem?_map] at hm
   rw [← hm]
   congr 2
   simp;have:=hpn.out;omega
  obtain⟨a,ha,rfl⟩:=Option.map_eq_some_iff.1 hmj
  have hja:j<an:=by rw [han.out];exact (List.getElem?_eq_some_iff.1 ha).1
  have hva:=za (hok.aut a (List.mem_of_getElem? ha))
  have Ha:=za ha
  have Hq:=za (show q<a.next.length from hq)
  clear hm hmj ha hok h hq
  change Calls _ _ _ _ (zbF w [aGo a q l])
  go_enter Tryz.func291,Tryz.ntmps291
  go_upto_region 1 with fail
  generalize w.alloc (.cells #[.slice PA pn pc,.slice AA an ac,sv,.int .i64 L,.int .i64 K,.int .i64 G] 168)=w1 at *
  have c0:=hb1.cell
  obtain⟨lo,hi,hal⟩:=(HN.out w1 hw1).aut
  obtain⟨b,o,a',B,m,c,B',m',c',rfl,ha',e0,e1,e2,hat⟩:=hal.aut hja
  obtain rfl:a=a':=by have:=ha'.out;rw [Ha.out] at this;exact Option.some.inj this
  have hge:¬ ((pn+j:Nat):Int)<(pn:Int):=by omega
  have hsb:((pn+j:Nat):Int) - (pn:Int)=(j:Int):=by omega
  have Hat:=za hat
  clear hal hat
  go_wp2_with (go_at_call 230;with_reducible refine (zda Hat.out hva.out Hq.out hl).mono ?_;rintro e w5 ⟨rfl,hx5⟩)
  go_ret
  exact ret_one ((hw1.trans hx5).alloc _) (Blk.new _ _ _) ((hw1.trans hx5).size)
theorem zfW (n:Nat)(h:n<9223372036854775808):IntKind.i64.wrap (n:Int)=(n:Int):=by rw [IntKind.wrap_i64];omega
theorem chs_fst (ms:List Mem) (x l:Nat):(chs ms x l).map Prod.fst=ms.map Prod.fst:=by
 induction ms with
 |nil=>rfl
 |cons m r ih=>simp [chs,ih]
theorem zdd.choices {ss:List Sys} {us:List Aut}(h:zdd ss us) {m:Mem}(hm:m∈zbc ss us) {q l:Nat}(hq:q<m.1)(hl:l<6):(∀ x∈m.2 q l,x<m.1)∧(m.2 q l).length≤m.1:=by
 refine⟨(h.ok m hm).2 q l hq hl,?_⟩
 rcases List.mem_append.1 hm with h1|h1
 ·obtain⟨s,hs,rfl⟩:=List.mem_map.1 h1
  exact cho_len (zcX (h.sys s hs)) hq
 ·obtain⟨a,ha,rfl⟩:=List.mem_map.1 h1
  have:=(zj (h.aut a ha)).2.1.1
  simp only [zdB]
  simpa using this
theorem zdd.fwd_ {ss:List Sys} {us:List Aut}(h:zdd ss us) (x:Nat) {l:Nat}(hl:l<6) (k:Nat):(fwd ((chs (zbc ss us) x l).take k)).length≤1048576∧∀ y∈fwd ((chs (zbc ss us) x l).take k),y<1048576:=by
 have hc:∀ c∈(chs (zbc ss us) x l).take k,(∀ y∈c.2,y<c.1)∧c.2.length≤c.1:=by
  intro c hc
  obtain⟨i,hi⟩:=List.getElem?_of_mem (List.mem_of_mem_take hc)
  have hil:=(List.getElem?_eq_some_iff.1 hi).1
  rw [zfs] at hil
  have hm:(zbc ss us)[i]?=some (zbc ss us)[i]:=List.getElem?_eq_getElem hil
  rw [chs_get hm] at hi
  obtain rfl:=Option.some.inj hi
  have hmm:=List.getElem_mem hil
  exact h.choices hmm (Nat.mod_lt _ (h.ok _ hmm).1) hl
 have hp:=(h.total (((chs (zbc ss us) x l).take k).map Prod.fst) (by rw [← zfc,← chs_fst _ x l];exact (List.take_sublist _ _).map _)).2
 refine⟨Nat.le_trans (fwd_len fun c hc'=>(hc c hc').2) hp,fun y hy=>Nat.lt_of_lt_of_le (fwd_lt (fun c hc'=>(hc c hc').1) y hy) hp⟩
theorem spec_l4Nexts {PA AA SA TA:Option Addr} {pn pc an ac n sc tc lo hi lo' hi':Nat} {sv:Value} {L K G:Int} {ss:List Sys} {us:List Aut} {w:World} {x l:Nat}(h:zeR w PA pn AA an ss us)(hok:zdd ss us)(hS:Lst zbp w lo hi SA (szs ss us))(hT:Lst zbp w lo' hi' TA (dec (szs ss us) x))(hn:(szs ss us).length=n)(hl:l<6) :
  Calls Tryz.prog 274 #[.agg #[.slice PA pn pc,.slice AA an ac,sv,.int .i64 L,.int .i64 K,.int .i64 G],.slice SA n sc,.slice TA n tc,.int .i64 l] w (zbF w (pnx (zbc ss us) x l)):=by
 have hw1:Ext w (w.alloc (.cells #[.slice PA pn pc,.slice AA an ac,sv,.int .i64 L,.int .i64 K,.int .i64 G] 168)):=(Ext.refl w).alloc _
 have hb1:=Blk.new w 168 #[.slice PA pn pc,.slice AA an ac,sv,.int .i64 L,.int .i64 K,.int .i64 G]
 have HN:=za (fun W (hW:Ext w W)=>h.ext hW)
 have HS:=za (fun W (hW:Ext w W)=>hS.ext zbp.ok hW)
 have HT:=za (fun W (hW:Ext w W)=>hT.ext zbp.ok hW)
 have Hok:=za hok
 have hn5:n≤5:=by rw [← hn];exact hok.len
 have hKl:(chs (zbc ss us) x l).length=n:=by rw [zfs,← hn,← zfc,List.length_map]
 have Hfw:=za (hok.fwd_ x hl)
 have Hget:=za (show ∀ k,k<n→∃ m,(zbc ss us)[k]?=some m∧(szs ss us)[k]?=some m.1∧(dec (szs ss us) x)[k]?=some (x / zab ((zbc ss us).drop (k+1)) % m.1)∧(chs (zbc ss us) x l)[k]?=some (m.1,m.2 (x / zab ((zbc ss us).drop (k+1)) % m.1) l)∧1≤m.1∧m.1≤16 from fun k hk=>by
  have hkl:k<(zbc ss us).length:=by rw [← zfs _ x l,hKl];exact hk
  have hm:(zbc ss us)[k]?=some (zbc ss us)[k]:=List.getElem?_eq_getElem hkl
  have hz:(szs ss us)[k]?=some ((zbc ss us)[k]).1:=by rw [← zfc,List.getElem?_map,hm];rfl
  refine⟨_,hm,hz,?_,chs_get hm,hok.le16 _ (List.mem_of_getElem? hz)⟩
  rw [zhC hz,← zfc,← List.map_drop]
  rfl)
 have Hfin:=za (fwd_pnx (zbc ss us) x l)
 have Hch:=za (fun (m:Mem) (hm:m∈zbc ss us) (q l:Nat) (hq:q<m.1) (hl:l<6)=>hok.choices hm hq hl)
 clear h hS hT hok
 generalize hK:chs (zbc ss us) x l=KK at *
 have Hlen:=za hKl
 have HSl:=za hn
 clear hK hKl hn
 go_enter Tryz.func274,Tryz.ntmps274
 go_upto_region 1 with fail
 generalize w.alloc (.cells #[.slice PA pn pc,.slice AA an ac,sv,.int .i64 L,.int .i64 K,.int .i64 G] 168)=w1 at *
 go_upto_region 2 with fail
 have hx2:=(Ext.refl w1).alloc (.cells #[.int .i64 0] 3)
 have hsz2:w.heap.size≤w1.heap.size:=hw1.size
 have ziw:=World.ownsRow_lit (base:=w1.heap.size) (e:=3) (size:=1) w1 #[.int .i64 0] 1 (Nat.le_refl _) (by unfold maxLen;omega) rfl
 generalize hg1:(some ⟨w1.heap.size,0,none⟩:Option Addr)=A1 at *
 clear hg1
 generalize w1.alloc (.cells #[.int .i64 0] 3)=w2 at *
 go_wp2_with fail
 go_loopw [9,10,11,12,13,14] (fun v i _ _ _ _ wr=>∃ (k:Nat) (out:List Nat),i=.int .i64 k∧k≤n∧Hid (out=fwd (KK.take k))∧wr.ownsRow w1.heap.size 3 1 v out.length (zaq out)∧Ext w1 wr) (fun _ i _ _ _ _ _=>n - (intOf i).toNat)
 case atStart=>exact⟨0,[0],rfl,Nat.zero_le _,rfl,by simpa [zaq] using ziw,hx2⟩
 case round =>
  clear ziw hx2
  obtain⟨k,out,rfl,hk,hout,zil,hx⟩:=hrel
  obtain⟨A0,c0,rfl⟩:=zg zil
  by_cases hlt:k<n
  ·obtain⟨m,hm,hz,hd,hc,hm1,hm16⟩:=Hget.out k hlt
   have Hm:=za hm
   have Hc:=za hc
   obtain⟨ho1,ho2⟩:=Hfw.out k
   rw [← hout.out] at ho1 ho2
   have Ho2:=za ho2
   obtain⟨q,hq⟩:∃ q:Nat,Hid (x / zab ((zbc ss us).drop (k+1)) % m.1=q):=⟨_,rfl⟩
   have hqm:q<m.1:=by rw [← hq.out];exact Nat.mod_lt _ hm1
   obtain⟨hcs1,hcs2⟩:=Hch.out m (List.mem_of_getElem? hm) q l hqm hl
   have Hcs1:=za hcs1
   rw [hq.out] at hd
   have Hc2:=za (show KK[k]?=some (m.1,m.2 q l) by rw [Hc.out,hq.out])
   obtain⟨sz,hsz⟩:∃ sz:Nat,Hid (m.1=sz):=⟨_,rfl⟩
   obtain⟨cs,hcs⟩:∃ cs:List Nat,Hid (m.2 q l=cs):=⟨_,rfl⟩
   have hkl:k<(dec (szs ss us) x).length:=(List.getElem?_eq_some_iff.1 hd).1
   have hww:=hw1.trans hx
   obtain⟨bt,ot,q',rfl,_,_,hq',hct⟩:=(HT.out wr hww).num hkl
   obtain rfl:q=q':=by have:=hq'.out;rw [hd] at this;exact Option.some.inj this
   obtain⟨bz,oz,z',rfl,_,_,hz',hcz⟩:=(HS.out wr hww).num (List.getElem?_eq_some_iff.1 hz).1
   obtain rfl:m.1=z':=by have:=hz'.out;rw [hz] at this;exact Option.some.inj this
   have Hqm:=za hqm
   rw [hsz.out] at hcz hm1 hm16 hcs2
   rw [hcs.out] at hcs2 Hcs1
   rw [hsz.out] at Hcs1 Hc2
   rw [hcs.out] at Hc2
   have hstep:=za (show fwd (KK.take (k+1))=out.flatMap fun o=>cs.map fun y=>o*sz+y by
    rw [List.take_add_one,Hc2.out,Option.toList_some,zhF,← hout.out])
   have CT:∀ W,Ext wr W→W.cell? ⟨bt,ot+k,none⟩=some (.int .i64 (q:Nat)):=fun W hW=>hW.cell_some hct
   have CB:∀ W,Ext wr W→∀ j,W.cell? ⟨w.heap.size,j,none⟩=#[Value.slice PA pn pc,.slice AA an ac,sv,.int .i64 L,.int .i64 K,.int .i64 G][j]?:=fun W hW=>((hb1.ext hx).ext hW).cell
   have CC:=za (show ∀ W,Ext wr W→Calls Tryz.prog 291 #[.agg #[.slice PA pn pc,.slice AA an ac,sv,.int .i64 L,.int .i64 K,.int .i64 G],.int .i64 k,.int .i64 q,.int .i64 l] W (zbF W cs) from fun W hW=>by
    have:=zgY (pc:=pc) (ac:=ac) (sv:=sv) (L:=L) (K:=K) (G:=G) (HN.out W (hww.trans hW)) Hok.out Hm.out Hqm.out hl
    rw [hcs.out] at this
    exact this)
   have hki:(k:Int)<(n:Int):=by omega
   have hrr:=Ext.refl wr
   clear hct hz' hq' hz hd hc hm hqm hcs1 ho2 Hqm
   go_upto_region 5 with fail
   refine uR (fun X=>Ext wr X) [7] (zw.of [0,1,2,3,4,5,6,7,8]) ?_
   refine uQ ?_
   (refine zb rfl rfl rfl rfl (fun K hK=>?_))
   go_simp
   refine (CC.out _ hrr.drew).mono ?_
   rintro e w4 ⟨A4,c4,rfl,hown4,hx4⟩
   refine hK.out _ _ ?_
   refine pT ?_
   refine uQ ?_
   refine ze ?_
   have hw4:Ext wr w4:=hrr.drew.trans hx4
   have hL4:=Lst.own_nats hown4
   have hLo:=(Lst.own_nats zil).ext zbp.ok hw4
   have hcz4:=hw4.cell_some hcz
   clear CT CB CC hrr hown4 hx4 hcz
   go_upto_region 7 with fail
   have hx5:=(Ext.refl w4).alloc (.cells #[] 3)
   have ziy:=World.ownsRow_lit (base:=w4.heap.size) (e:=3) (size:=1) w4 #[] 0 (Nat.le_refl _) (by unfold maxLen;omega) rfl
   generalize hg1:(some ⟨w4.heap.size,0,none⟩:Option Addr)=A5 at *
   clear hg1
   generalize w4.alloc (.cells #[] 3)=w5 at *
   have hLo':=za (fun W (hW:Ext w4 W)=>hLo.ext zbp.ok hW)
   have hL4':=za (fun W (hW:Ext w4 W)=>hL4.ext zbp.ok hW)
   have Hsz:=za (fun W (hW:Ext w4 W)=>hW.cell_some hcz4)
   clear hLo hL4 hcz4
   go_wp2_with fail
   go_loopw [12,13,14] (fun v i _ wr=>∃ (a:Nat) (nx:List Nat),i=.int .i64 a∧a≤out.length∧Hid (nx=(out.take a).flatMap fun o=>cs.map fun y=>o*sz+y)∧wr.ownsRow w4.heap.size 3 1 v nx.length (zaq nx)∧Ext w4 wr) (fun _ i _ _=>out.length - (intOf i).toNat)
   case atStart=>exact⟨0,[],rfl,Nat.zero_le _,by simp [Hid],by simpa [zaq] using ziy,hx5⟩
   case round =>
    clear ziy hx5
    obtain⟨a,nx,rfl,ha,hnx,ziy,hx5⟩:=hrel
    by_cases hla:a<out.length
    ·obtain⟨bo,oo,o,rfl,_,_,ho,hco⟩:=(hLo'.out _ hx5).num hla
     have holt:=Ho2.out o (List.mem_of_getElem? ho.out)
     have hnl:nx.length≤16777216:=by
      rw [hnx.out]
      refine Nat.le_trans (flat_len (k:=cs.length) fun z _=>by simp) ?_
      rw [List.length_take]
      have:=Nat.mul_le_mul (show min a out.length≤1048576 by omega) (show cs.length≤16 by omega)
      omega
     have hsn:=za (show ((out.take (a+1)).flatMap fun o=>cs.map fun y=>o*sz+y)=nx++cs.map fun y=>o*sz+y by
      rw [List.take_add_one,ho.out,hnx.out];simp)
     clear hco
     go_wp2_with fail
     go_loopw [12,14] (fun v i wr=>∃ (b:Nat) (nb:List Nat),i=.int .i64 b∧b≤cs.length∧Hid (nb=nx++(cs.take b).map fun y=>o*sz+y)∧wr.ownsRow w4.heap.size 3 1 v nb.length (zaq nb)∧Ext w4 wr) (fun _ i _=>cs.length - (intOf i).toNat)
     case atStart=>exact⟨0,nx,rfl,Nat.zero_le _,by simp [Hid],ziy,hx5⟩
     case round =>
      clear ziy hx5
      obtain⟨b,nb,rfl,hb,hnb,ziy,hx5⟩:=hrel
      by_cases hlb:b<cs.length
      ·obtain⟨bc,oc,y,rfl,_,_,hy,hcy⟩:=(hL4'.out _ hx5).num hlb
       have hylt:=Hcs1.out y (List.mem_of_getElem? hy.out)
       have hnbl:nb.length≤16777216+16:=by rw [hnb.out,List.length_append,List.length_map,List.length_take];omega
       have hmul:o*sz≤1048576*16:=Nat.mul_le_mul (by omega) hm16
       obtain⟨os,hos⟩:∃ z:Nat,Hid (o*sz=z):=⟨_,rfl⟩
       have hosi:(o:Int)*(sz:Int)=(os:Int):=by rw [← hos.out];exact (Int.natCast_mul o sz).symm
       rw [hos.out] at hmul
       have hsn3:=za (show (nx++(cs.take (b+1)).map fun y=>o*sz+y)=nb++[os+y] by
        rw [List.take_add_one,hy.out,hnb.out,← hos.out];simp)
       have C1:∀ W,Ext wr W→W.cell? ⟨bo,oo+a,none⟩=some (.int .i64 (o:Nat)):=fun W hW=>(hLo'.out W (hx5.trans hW)).num2 ho.out
       have C2:∀ W,Ext wr W→W.cell? ⟨bz,oz+k,none⟩=some (.int .i64 (sz:Nat)):=fun W hW=>Hsz.out W (hx5.trans hW)
       have C3:∀ W,Ext wr W→W.cell? ⟨bc,oc+b,none⟩=some (.int .i64 (y:Nat)):=fun W hW=>hW.cell_some hcy
       have hai:(a:Int)<(out.length:Int):=by omega
       have hbi:(b:Int)<(cs.length:Int):=by omega
       have hww5:=Ext.refl wr
       clear hcy
       go_upto_region 13 with fail
       refine uR (fun X=>Ext wr X) [15,16] (zw.of [0,1,2,3,4,5,6,7,8,9,10,11,12,13,14,15,16,17]) ?_
       refine uQ ?_
       (refine zd rfl rfl rfl (fun K hK=>?_);go_simp)
       refine hK.out _ _ (hww5.drew.alloc _) ?_
       refine pT ?_
       (refine zb rfl rfl rfl rfl (fun K hK=>?_))
       refine zaG w4 wr.drew _ _ _ rfl 3 _ 1 8 Tryz.underlying137 zY rfl (by decide) u12 nb.length (zaq nb) _ _ rfl rfl (hx5.drew).size ziy rfl (zaI _) (by unfold maxLen;omega) (by omega) ?_
       intro g5 cap5 w6 hown6 hg6 hat6 hlt6
       have hwr:IntKind.i64.wrap (IntKind.i64.wrap (os:Int)+(y:Int))=((os+y:Nat):Int):=by rw [zfW os (by omega),← Int.natCast_add,zfW (os+y) (by omega)]
       rw [hwr] at hown6
       refine hK.out _ _ ?_
       refine pT ?_
       refine uQ ?_
       refine ze ?_
       have hx6:Ext w4 w6:=hx5.drew.grown hg6 (fun q' hq'=>(ziy.lt q' hq').1)
       go_wp2_with fail
       go_roundw
       case rel=>exact⟨b+1,nb++[os+y],by go_num,by omega,by unfold Hid;rw [hsn3.out],by rw [List.length_append,zdI];exact hown6,hx6⟩
       case measure=>simp [intOf];omega
      ·obtain rfl:b=cs.length:=by omega
       have hfin2:=za (show nb=nx++cs.map fun y=>o*sz+y by rw [hnb.out,List.take_length])
       go_wp2_with fail
       go_roundw
       case rel=>exact⟨a+1,nb,by go_num,by omega,by unfold Hid;rw [hsn.out,hfin2.out],ziy,hx5⟩
       case measure=>simp [intOf];omega
    ·obtain rfl:a=out.length:=by omega
     have hfin3:=za (show nx=fwd (KK.take (k+1)) by rw [hstep.out,hnx.out,List.take_length])
     have hx6:=hx.trans (hw4.trans hx5)
     have hown6:=zn ziy (show w1.heap.size≤w4.heap.size from (hx.trans hw4).size)
     go_wp2_with fail
     go_roundw
     case rel=>exact⟨k+1,nx,by go_num,by omega,hfin3,hown6,hx6⟩
     case measure=>simp [intOf];omega
  ·obtain rfl:n=k:=by omega
   have zio:=za (show out=pnx (zbc ss us) x l by rw [hout.out,List.take_of_length_le (by have:=Hlen.out;omega)];exact Hfin.out)
   have hres:=za (show zbF w (pnx (zbc ss us) x l) (.returned (.slice A0 out.length c0)) wr from by
    rw [← zio.out]
    exact⟨A0,c0,rfl,zn zil hsz2,hw1.trans hx⟩)
   clear zil
   go_wp2
   go_ret
   exact hres.out
theorem info_intss:(Tryz.prog.info? 25).map (fun i=>(i.zero,i.size,i.bytes))=some (some (.slice none 0 0),1,24):=by kernel_rfl
def mvs (d:Nat→Nat→List Nat) (L:List Nat) (N:Nat):List (List (List Nat)):=(List.range N).map fun x=>L.map fun l=>d x l
theorem zcU (d:Nat→Nat→List Nat) (L:List Nat) (N:Nat):(mvs d L N).length=N:=by simp [mvs]
abbrev P3:Lay (List (List Nat)):=LstP (LstP zbp)
theorem P3.ok:Lay.Ok P3:=LstP.ok (LstP.ok zbp.ok)
def RetMv (w:World) (mv:List (List (List Nat))) (e:Ending) (w':World):Prop:=∃ A c,e=.returned (.slice A mv.length c)∧Lst P3 w' w.heap.size w'.heap.size A mv∧Ext w w'
theorem spec_l4Moves {PA AA SA:Option Addr} {pn pc an ac n sc lo hi:Nat} {sv:Value} {K G:Int} {L N:Nat} {ss:List Sys} {us:List Aut} {w:World}(h:zeR w PA pn AA an ss us)(hok:zdd ss us)(hS:Lst zbp w lo hi SA (szs ss us))(hn:(szs ss us).length=n)(hL:L<64)(hN:N≤1048576) :
  Calls Tryz.prog 221 #[.agg #[.slice PA pn pc,.slice AA an ac,sv,.int .i64 L,.int .i64 K,.int .i64 G],.slice SA n sc,.int .i64 N] w (RetMv w (mvs (pnx (zbc ss us)) (letters L 6) N)):=by
 have hw1:Ext w (w.alloc (.cells #[.slice PA pn pc,.slice AA an ac,sv,.int .i64 L,.int .i64 K,.int .i64 G] 168)):=(Ext.refl w).alloc _
 have hb1:=Blk.new w 168 #[.slice PA pn pc,.slice AA an ac,sv,.int .i64 L,.int .i64 K,.int .i64 G]
 have HN:=za (fun W (hW:Ext w W)=>h.ext hW)
 have HS:=za (fun W (hW:Ext w W)=>hS.ext zbp.ok hW)
 have Hok:=za hok
 have Hn:=za hn
 have hn5:n≤5:=by rw [← hn];exact hok.len
 have Hz:=za hok.le16
 have hLs:Sm L:=by unfold Sm;omega
 have hll:=zC L 6
 have Hl6:=za (show ∀ l∈letters L 6,l<6 from fun l hl=>(zF.1 hl).1)
 clear h hok hS hn
 go_enter Tryz.func221,Tryz.ntmps221
 go_upto_region 1 with fail
 generalize w.alloc (.cells #[.slice PA pn pc,.slice AA an ac,sv,.int .i64 L,.int .i64 K,.int .i64 G] 168)=w1 at *
 go_upto_region 2 with fail
 have hx2:=(Ext.refl w1).alloc (.cells #[] 25)
 have hsz2:w.heap.size≤w1.heap.size:=hw1.size
 have ziw:=World.ownsRow_lit (base:=w1.heap.size) (e:=25) (size:=1) w1 #[] 0 (Nat.le_refl _) (by unfold maxLen;omega) rfl
 have hob2:∀ b,(Value.slice (some ⟨w1.heap.size,0,none⟩) 0 0).ownBlock=some b→b<(w1.alloc (.cells #[] 25)).heap.size:=fun b hb=>by
  simp [Value.ownBlock] at hb
  simp;omega
 generalize hg1:(some ⟨w1.heap.size,0,none⟩:Option Addr)=A1 at *
 clear hg1
 generalize w1.alloc (.cells #[] 25)=w2 at *
 have c2:=(hb1.ext hx2).cell
 go_upto_region 3 with (go_at_call 135;refine (zV L hLs _).mono ?_;rintro e w3 ⟨AL,cL,rfl,hownL,hx3⟩)
 have hx23:=hx2.trans hx3
 have hlst3:=Lst.own_nats hownL
 have hsz23:=hx3.size
 have zix:=zh ziw hx3
 clear ziw hownL hx2 hx3 c2
 generalize hlq:letters L 6=LL at *
 have Hlq:=za hlq
 clear hlq
 go_wp2_with fail
 go_loopw [7,9,10,11,12] (fun v i _ _ _ wr=>∃ k:Nat,i=.int .i64 k∧k≤N∧Grl P3 wr w1.heap.size 25 v (mvs (pnx (zbc ss us)) LL k)∧Ext w1 wr∧Lst zbp wr w2.heap.size w3.heap.size AL LL∧(∀ b,v.ownBlock=some b→b<w2.heap.size∨w3.heap.size≤b)∧w3.heap.size≤wr.heap.size) (fun _ i _ _ _ _=>N - (intOf i).toNat)
 case atStart=>exact⟨0,rfl,Nat.zero_le _,⟨[],zix,fun i r x hr=>by simp at hr⟩,hx23,hlst3,fun b hb=>Or.inl (hob2 b hb),Nat.le_refl _⟩
 case round =>
  clear zix hlst3 hob2
  obtain⟨k,rfl,hk,hgr,hx,hlst3,hob,hs3⟩:=hrel
  have hkl:=zcU (pnx (zbc ss us)) LL k
  obtain⟨A0,c0,rfl⟩:=hgr.form
  rw [hkl]
  rw [hkl] at hob
  have Hob:=za hob
  clear hob
  by_cases hlt:k<N
  ·have hww:=hw1.trans hx
   have Hsn:=za (show mvs (pnx (zbc ss us)) LL (k+1)=mvs (pnx (zbc ss us)) LL k++[LL.map fun l=>pnx (zbc ss us) k l] by simp [mvs,List.range_succ])
   rw [hkl] at hgr
   go_upto_region 7 with (go_at_call 223;refine (zfk (HS.out _ hww) Hn.out (by omega) Hz.out (by omega)).mono ?_;rintro e w4 ⟨A4,c4,rfl,hown4,hx4⟩)
   have hln:(dec (szs ss us) k).length=n:=by rw [zcP];exact Hn.out
   rw [hln] at hown4
   rw [hln]
   have HT:=za (fun W (hW:Ext w4 W)=>(Lst.own_nats (xs:=dec (szs ss us) k) (c:=c4) (A:=A4) (by rw [hln];exact hown4)).ext zbp.ok hW)
   clear hown4
   go_upto_region 8 with fail
   have hx5:=(Ext.refl w4).alloc (.cells #[] 137)
   have ziy:=World.ownsRow_lit (base:=w4.heap.size) (e:=137) (size:=1) w4 #[] 0 (Nat.le_refl _) (by unfold maxLen;omega) rfl
   generalize hg1:(some ⟨w4.heap.size,0,none⟩:Option Addr)=A5 at *
   clear hg1
   generalize w4.alloc (.cells #[] 137)=w5 at *
   have hw4:=hww.trans hx4
   have CBx:=za (fun W (hW:Ext w4 W)=>((hb1.ext (hx.trans hx4)).ext hW).cell)
   have HL:=za (fun W (hW:Ext w4 W)=>hlst3.ext zbp.ok (hx4.trans hW))
   go_wp2_with fail
   go_loopw [11,12] (fun v i wr=>∃ j:Nat,i=.int .i64 j∧j≤LL.length∧Grl (LstP zbp) wr w4.heap.size 137 v ((LL.take j).map fun l=>pnx (zbc ss us) k l)∧Ext w4 wr) (fun _ i _=>LL.length - (intOf i).toNat)
   case atStart=>exact⟨0,rfl,Nat.zero_le _,⟨[],ziy,fun i r x hr=>by simp at hr⟩,hx5⟩
   case round =>
    clear ziy hx5
    obtain⟨j,rfl,hj,hrw,hx5⟩:=hrel
    obtain⟨A6,c6,rfl⟩:=hrw.form
    have hjl:((LL.take j).map fun l=>pnx (zbc ss us) k l).length=j:=by simp;omega
    rw [hjl]
    rw [hjl] at hrw
    by_cases hlj:j<LL.length
    ·obtain⟨bl,ol,l,rfl,_,_,hl,hcl⟩:=(HL.out _ hx5).num hlj
     have hl6:=Hl6.out l (List.mem_of_getElem? hl.out)
     have hsn:=za (show (LL.take (j+1)).map (fun l=>pnx (zbc ss us) k l)=(LL.take j).map (fun l=>pnx (zbc ss us) k l)++[pnx (zbc ss us) k l] by rw [List.take_add_one,hl.out];simp)
     have CL:∀ W,Ext wr W→W.cell? ⟨bl,ol+j,none⟩=some (.int .i64 (l:Nat)):=fun W hW=>hW.cell_some hcl
     have CB:∀ W,Ext wr W→∀ q,W.cell? ⟨w.heap.size,q,none⟩=#[Value.slice PA pn pc,.slice AA an ac,sv,.int .i64 L,.int .i64 K,.int .i64 G][q]?:=fun W hW=>CBx.out W (hx5.trans hW)
     have CC:=za (show ∀ W,Ext wr W→Calls Tryz.prog 274 #[.agg #[.slice PA pn pc,.slice AA an ac,sv,.int .i64 L,.int .i64 K,.int .i64 G],.slice SA n sc,.slice A4 n c4,.int .i64 l] W (zbF W (pnx (zbc ss us) k l)) from fun W hW=>spec_l4Nexts (HN.out W ((hw4.trans hx5).trans hW)) Hok.out (HS.out W ((hw4.trans hx5).trans hW)) (HT.out W (hx5.trans hW)) Hn.out hl6)
     have hji:(j:Int)<(LL.length:Int):=by omega
     have hww5:=Ext.refl wr
     obtain⟨rows,hro,hrp⟩:=hrw
     rw [hjl] at hro
     clear hcl
     go_upto_region 11 with fail
     refine uR (fun X=>Ext wr X) [8,9,10] (zw.of [0,1,2,3,4,5,6,7,8,9,10,11]) ?_
     refine uQ ?_
     (refine zb rfl rfl rfl rfl (fun K hK=>?_))
     go_simp
     refine (CC.out _ hww5.drew).mono ?_
     rintro e w7 ⟨A7,c7,rfl,hown7,hx7⟩
     have hww7:=hww5.drew.trans hx7
     refine hK.out _ _ ?_
     refine pT ?_
     (refine zb rfl rfl rfl rfl (fun K hK=>?_))
     go_simp
     refine hK.out _ _ ?_
     refine pT ?_
     (refine zb rfl rfl rfl rfl (fun K hK=>?_))
     refine zaG w4 w7 _ _ _ rfl 137 _ 1 24 Tryz.underlying25 zbJ rfl (by decide) (.slice A6 j c6) j rows _ _ rfl rfl (hx5.trans hww7).size (zh hro hww7) rfl (zaJ _ _ _) (by unfold maxLen;omega) (by omega) ?_
     intro g8 cap8 w8 hown8 hg8 hat8 hlt8
     refine hK.out _ _ ?_
     refine pT ?_
     refine uQ ?_
     refine ze ?_
     have hgr8:Grl (LstP zbp) w8 w4.heap.size 137 (.slice (some ⟨g8,0,none⟩) (j+1) cap8) ((LL.take j).map (fun l=>pnx (zbc ss us) k l)++[pnx (zbc ss us) k l]):=by
      have:=Grl.push2 (LstP.ok zbp.ok) (v:=.slice A6 j c6) (xs:=(LL.take j).map fun l=>pnx (zbc ss us) k l) (g:=g8) (cap:=cap8) hrp (by rw [hjl];exact hro) hww7 ⟨A7,c7,rfl,Lst.own_nats hown7⟩ (Nat.le_refl wr.heap.size) hx5.size (Nat.le_refl _) (by rw [hjl];exact hown8) hg8 hat8
      rwa [hjl] at this
     have hx8:Ext w4 w8:=(hx5.trans hww7).grown hg8 (fun q' hq'=>(hro.lt q' hq').1)
     go_wp2_with fail
     go_roundw
     case rel=>exact⟨j+1,by go_num,by omega,by rw [hsn.out];exact hgr8,hx8⟩
     case measure=>simp [intOf];omega
    ·obtain rfl:j=LL.length:=by omega
     rw [List.take_length] at hrw
     have hw5:=hx4.trans hx5
     have hlst:=hrw.lst (LstP.ok zbp.ok)
     obtain⟨rows,hro,hrp⟩:=hgr
     rw [hkl] at hro
     go_wp2_with (at_builtin;refine zQ w1 wr rfl _ _ _ rfl 25 _ 1 24 Tryz.underlying229 info_intss rfl (by decide) (.slice A0 k c0) k rows _ _ rfl rfl (hx.trans hw5) (zh hro hw5) rfl (zaJ _ _ _) (by unfold maxLen;omega) (by omega) ?_;intro v8 w8 hext8 hown8 hg8 hat8)
     have hgr8:Grl P3 w8 w1.heap.size 25 v8 (mvs (pnx (zbc ss us)) LL k++[LL.map fun l=>pnx (zbc ss us) k l]):=
      Grl.push P3.ok (v:=.slice A0 k c0) hrp (by rw [hkl];exact hro) hw5 (⟨A6,c6,by simp,hlst⟩:P3 _ _ _ (.slice A6 LL.length c6) _) hx4.size (hx.trans hx4).size (Nat.le_refl _) (by rw [hkl];exact hown8) hg8 hat8
     have hlst8:Lst zbp w8 w2.heap.size w3.heap.size AL LL:=(hlst3.ext zbp.ok hw5).frm zbp.ok (Frm.of_grown hg8) (fun q h1 h2 hq=>by have:=Hob.out q hq;omega)
     have hob8:∀ b,v8.ownBlock=some b→b<w2.heap.size∨w3.heap.size≤b:=fun b hb=>by
      rcases hat8 with h1|h1
      ·rw [h1] at hb;exact Hob.out b hb
      ·rw [h1] at hb
       have:=Option.some.inj hb
       have:=hw5.size
       omega
     have hs8:w3.heap.size≤w8.heap.size:=by have:=hw5.size;have:=(Frm.of_grown hg8).size;omega
     go_roundw
     case rel=>exact⟨k+1,by go_num,by omega,by rw [Hsn.out];exact hgr8,hext8,hlst8,hob8,hs8⟩
     case measure=>simp [intOf];omega
  ·obtain rfl:N=k:=by omega
   have hres:=za (show RetMv w (mvs (pnx (zbc ss us)) LL N) (.returned (.slice A0 N c0)) wr from by
    refine⟨A0,c0,by rw [hkl],?_,hw1.trans hx⟩
    have:=hgr.lst P3.ok
    exact this.more P3.ok hsz2 (Nat.le_refl _))
   clear hgr
   go_wp2
   go_ret
   exact hres.out
end Go.Proofs.YtmjaepibdpfblaaGreatDoor
