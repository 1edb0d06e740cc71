/- impl.newPart -/
import Derived.Deep.DeepCutAuto
import Derived.Test.YtfcjhpodichpjaaDoorV02
import Derived.Test.YtfcjhpodichpjaaDoorV01
import Derived.Test.YtfcjhpodichpjaaDoorV04
import Derived.Deep.CutBlock
import Derived.Test.YtfcjhpodichpjaaDoorV03
set_option maxHeartbeats 4000000
set_option maxRecDepth 100000
namespace Go.Proofs.YtfcjhpodichpjaaDoor
open Go Go.RowKit
theorem info_pmov:(Tryd.prog.info? 86).map (fun i=>(i.zero,i.size,i.bytes))=some (some (.pointer none),1,8):=by kernel_rfl
def ptrs (bs:List Nat):List Value:=bs.map fun b=>.pointer (some ⟨b,0,none⟩)
def MovL (w:World) (bs:List Nat) (ss:List Sys):Prop:=bs.length=ss.length∧∀ (i b:Nat) (s:Sys),bs[i]?=some b→ss[i]?=some s→MovB w b s.edges
theorem MovL.ext {w w':World} {bs:List Nat} {ss:List Sys}(h:MovL w bs ss)(hx:Ext w w'):MovL w' bs ss:=⟨h.1,fun i b s hb hs=>(h.2 i b s hb hs).ext hx⟩
theorem MovL.snoc {w w':World} {bs:List Nat} {ss:List Sys} {b:Nat} {s:Sys}(h:MovL w bs ss)(hx:Ext w w')(hb:MovB w' b s.edges):MovL w' (bs++[b]) (ss++[s]):=by
 have hl:=h.1
 refine⟨by simp [hl],fun i b' s' hb' hs'=>?_⟩
 rcases Nat.lt_trichotomy i bs.length with hi|hi|hi
 ·rw [List.getElem?_append_left hi] at hb'
  rw [List.getElem?_append_left (by omega)] at hs'
  exact (h.2 i b' s' hb' hs').ext hx
 ·rw [List.getElem?_append_right (by omega),hi,Nat.sub_self] at hb'
  rw [List.getElem?_append_right (by omega),hi,hl,Nat.sub_self] at hs'
  simp at hb' hs'
  subst hb';subst hs'
  exact hb
 ·rw [List.getElem?_eq_none (by simp;omega)] at hb'
  cases hb'
theorem MovL.frm {S:Nat→Prop} {w w':World} {bs:List Nat} {ss:List Sys}(h:MovL w bs ss)(hx:Frm S w w')(hS:∀ (b:Nat) (cs:Array Value),Blk w b 130 cs→¬ S b):MovL w' bs ss:=
 ⟨h.1,fun i b s hb hs=>by
  obtain⟨cs,hB,hc⟩:=h.2 i b s hb hs
  exact⟨cs,hB.frm hx (hS b cs hB),hc⟩⟩
structure PtAt (w:World) (lo hi:Nat) (A:Option Addr) (k lo' hi':Nat) (M:Option Addr) (ss:List Sys):Prop where
 sys:SLAt w lo hi A k ss
 mov:∃ bs,Reads w lo' hi' 1 M k (ptrs bs)∧MovL w bs ss
theorem PtAt.ext {w w':World} {lo hi k lo' hi':Nat} {A M:Option Addr} {ss:List Sys}(h:PtAt w lo hi A k lo' hi' M ss)(hx:Ext w w'):PtAt w' lo hi A k lo' hi' M ss:=by
 obtain⟨bs,hr,hb⟩:=h.mov
 exact⟨h.sys.ext hx,bs,hr.ext hx,hb.ext hx⟩
structure Grp (w0 W:World) (G:Nat) (a v:Value) (bs:List Nat) (ss:List Sys):Prop where
 blk:Blk W G 151 #[a,v]
 own:W.ownsRow w0.heap.size 86 1 v bs.length (ptrs bs)
 mov:MovL W bs ss
 ext:Ext w0 W
 hG:w0.heap.size≤G
theorem Grp.ext_ {w0 W W':World} {G:Nat} {a v:Value} {bs:List Nat} {ss:List Sys}(h:Grp w0 W G a v bs ss)(hb:Ext W W'):Grp w0 W' G a v bs ss:=⟨h.blk.ext hb,zm h.own hb,h.mov.ext hb,h.ext.trans hb,h.hG⟩
theorem zcU {w:World} {base:Nat} {e t:TypeId} {size n G:Nat} {v:Value} {xs:List Value} {cs:Array Value}(h:w.ownsRow base e size v n xs)(hB:Blk w G t cs)(hne:e≠t) {b:Nat}(hv:v.ownBlock=some b):b≠G:=by
 rintro rfl
 rcases h.2 with ⟨rfl,_⟩|⟨g,cap,cur,rfl,_,hh,_⟩
 ·simp [Value.ownBlock] at hv
 ·have hg:g=b:=by simpa [Value.ownBlock] using hv
  subst hg
  unfold Blk at hB
  rw [hh] at hB
  injection hB with hB
  injection hB with _ ht
  exact absurd ht hne
theorem Grp.push {w0 W W':World} {G:Nat} {a v:Value} {bs:List Nat} {ss:List Sys} {b g cap:Nat} {s:Sys}(h:Grp w0 W G a v bs ss)(hb:MovB W b s.edges)
  (zep:W'.ownsRow w0.heap.size 86 1 (.slice (some ⟨g,0,none⟩) (bs.length+1) cap) (bs.length+1) (ptrs bs++[.pointer (some ⟨b,0,none⟩)]))
  (hg:W.grownBy W' v.ownBlock) (hat:v.ownBlock=some g∨g=W.heap.size+1) :
  Hid (W'.cell? ⟨G,1,none⟩=some v)∧W'.frozen? ⟨G,1,none⟩=false∧Grp w0 (W'.setCell ⟨G,1,none⟩ (.slice (some ⟨g,0,none⟩) (bs.length+1) cap)) G a (.slice (some ⟨g,0,none⟩) (bs.length+1) cap) (bs++[b]) (ss++[s]):=by
 have hB:Blk W' G 151 #[a,v]:=(hg.block G h.blk.lt (fun e=>zcU h.own h.blk (by decide) e.symm rfl)).trans h.blk
 have hgG:g≠G:=by
  rcases hat with h1|h1
  ·exact zcU h.own h.blk (by decide) h1
  ·have:=h.blk.lt;omega
 have hx:Ext w0 W':=h.ext.grown hg (fun k hk=>(h.own.lt k hk).1)
 have hset:=Frm.setCell W' G 1 (.slice (some ⟨g,0,none⟩) (bs.length+1) cap)
 have hfr:Frm (fun k=>v.ownBlock=some k) W W':=Frm.of_grown hg
 have hm1:MovL W' (bs++[b]) (ss++[s]):=(h.mov.snoc (Ext.refl W) hb).frm hfr (fun c cs hc hS=>zcU h.own hc (by decide) hS rfl)
 refine⟨hB.cell 1,hB.frozen 1,⟨by simpa using hB.set_ 1 _,?_,hm1.frm hset (fun c cs hc hS=>?_),hx.setCell (p:=⟨G,1,none⟩) h.hG _,h.hG⟩⟩
 ·rw [List.length_append,List.length_singleton,show ptrs (bs++[b])=ptrs bs++[.pointer (some ⟨b,0,none⟩)] by simp [ptrs]]
  exact zj zep hset (fun c hv hS=>by
   have:g=c:=by simpa [Value.ownBlock] using hv
   omega)
 ·subst hS
  unfold Blk at hc hB
  rw [hc] at hB
  injection hB with hB
  injection hB with _ ht
  exact absurd ht (by decide)
theorem zea {lo hi:Nat} {A:Option Addr} {n c:Nat} {ss:List Sys} {w:World}(h:SLAt w lo hi A n ss)(hf:∀ s∈ss,Few 16 s.edges)(hn4:n≤1000) :
  Calls Tryd.prog 123 #[.slice A n c] w fun e w'=>∃ M d,e=.returned (.agg #[.slice A n c,.slice M n d])∧PtAt w' lo hi A n w.heap.size w'.heap.size M ss∧Ext w w':=by
 have HS:=za (fun W (hW:Ext w W)=>h.ext hW)
 have hL:=za h.1
 have Hf:=za hf
 have hlen:=h.len
 clear hf
 go_enter Tryd.func123,Tryd.ntmps123
 obtain⟨bz,bG⟩:=zv (Ext.refl ((w.alloc (.cells #[.slice none 0 0,.slice none 0 0] 151)).alloc (.cells #[.slice A n c,.slice none 0 0] 151)))
 have hw2:Ext w ((w.alloc (.cells #[.slice none 0 0,.slice none 0 0] 151)).alloc (.cells #[.slice A n c,.slice none 0 0] 151)):=((Ext.refl w).alloc _).alloc _
 go_upto_region 2 with fail
 have hsz1:w.heap.size≤(w.alloc (.cells #[.slice none 0 0,.slice none 0 0] 151)).heap.size:=by simp
 have hsz2:(w.alloc (.cells #[.slice none 0 0,.slice none 0 0] 151)).heap.size=w.heap.size+1:=by simp
 have hgr:Grp (w.alloc (.cells #[.slice none 0 0,.slice none 0 0] 151)) ((w.alloc (.cells #[.slice none 0 0,.slice none 0 0] 151)).alloc (.cells #[.slice A n c,.slice none 0 0] 151)) (w.heap.size+1) (.slice A n c) (.slice none 0 0) [] []:=
  ⟨bG,World.ownsRow_nil _ _ _ _,⟨rfl,fun i b s hb=>by simp at hb⟩,(Ext.refl _).alloc _,by rw [hsz2];exact Nat.le_refl _⟩
 clear bG
 generalize (w.alloc (.cells #[.slice none 0 0,.slice none 0 0] 151)).alloc (.cells #[.slice A n c,.slice none 0 0] 151)=w2 at *
 generalize w.alloc (.cells #[.slice none 0 0,.slice none 0 0] 151)=w1 at *
 go_wp2_with fail
 go_loopw [10] (fun i wr=>∃ (k:Nat) (v:Value) (bs:List Nat),k≤n∧i=.int .i64 k∧Grp w1 wr (w.heap.size+1) (.slice A n c) v bs (ss.take k)∧Hid (bs.length=k)∧Blk wr w.heap.size 151 #[.slice none 0 0,.slice none 0 0]∧Ext w wr) (fun i _=>n - (intOf i).toNat)
 case atStart=>exact⟨0,_,[],Nat.zero_le _,rfl,by simpa using hgr,za rfl,bz,hw2⟩
 case round =>
  clear hgr bz hw2 w2
  obtain⟨k,v,bs,hk,rfl,hgr,hbl,bz,hw⟩:=hrel
  by_cases hlt:k<n
  ·obtain⟨g,o,s,B,m,c',rfl,_,_,hs,c0,c1,c2,hsx⟩:=(HS.out wr hw).sys hlt
   have hfs:=za (Hf.out s (List.mem_of_getElem? hs.out))
   have Htk:=za (show ss.take (k+1)=ss.take k++[s] by rw [List.take_add_one,hs.out];rfl)
   have hx3:=(Ext.refl wr).alloc (.cells #[.int .i64 s.al,.int .i64 s.st,.slice B m c'] 39)
   have hbx:=Blk.new wr 39 #[.int .i64 s.al,.int .i64 s.st,.slice B m c']
   have hgr3:=hgr.ext_ hx3
   have hw3:=hw.trans hx3
   have bz3:=bz.ext hx3
   have hsx3:=hsx.ext hx3
   clear hgr
   go_upto_region 5 with fail
   clear c0 c1 c2
   generalize wr.alloc (.cells #[.int .i64 s.al,.int .i64 s.st,.slice B m c'] 39)=w3 at *
   have c5:=hbx.cells
   have cG:∀ W,Ext w3 W→∀ q,W.cell? ⟨w.heap.size+1,q,none⟩=#[Value.slice (some ⟨g,o,none⟩) n c,v][q]?:=fun W hW=>(hgr3.blk.ext hW).cell
   have hww:=Ext.refl w3
   refine uR (fun X=>Ext w3 X) [5,7] (zE.of [0,1,2,3,4,5,6,7]) ?_
   refine uQ ?_
   refine ze fun K hK=>?_;go_simp
   refine (zbv (hsx3.ext hww.drew) hfs.out).mono ?_
   rintro e w4 ⟨b,rfl,hb1,hmv,hx4⟩
   have hww4:=hww.drew.trans hx4
   refine hK.out _ _ hww4 ?_
   refine pT ?_
   refine uQ ?_
   refine ze fun K hK=>?_;go_simp
   refine hK.out _ _ (hww4.alloc _) ?_
   refine pT ?_
   refine zb fun K hK=>?_
   refine zab w1 w4 _ _ _ rfl 86 _ 1 8 Tryd.underlying149 info_pmov rfl (by decide) v bs.length (ptrs bs) _ _ rfl rfl (hgr3.ext.trans hww4).size (zm hgr3.own hww4) rfl (by simp [Value.oneCell']) (by unfold maxLen;have:=hbl.out;omega) (by have:=hbl.out;omega) ?_
   intro g5 cap5 w5 zew hg5 hat5 hlt5
   refine hK.out _ _ ?_
   refine pT ?_
   refine uQ ?_
   obtain⟨p1,p2,p3⟩:=(hgr3.ext_ hww4).push (s:=s) hmv (W':=w5) zew hg5 hat5
   have p1':=p1.out
   have bz5:Blk w5 w.heap.size 151 #[.slice none 0 0,.slice none 0 0]:=(hg5.block _ (bz3.ext hww4).lt (fun e=>zcU (zm hgr3.own hww4) (bz3.ext hww4) (by decide) e.symm rfl)).trans (bz3.ext hww4)
   have hw5:Ext w w5:=(hw3.trans hww4).grown hg5 (fun q hq=>by have:=(zm hgr3.own hww4).lt q hq;omega)
   have bz6:=bz5.far (p:=⟨w.heap.size+1,1,none⟩) (by simp) (.slice (some ⟨g5,0,none⟩) (bs.length+1) cap5)
   have hw6:=hw5.setCell (p:=⟨w.heap.size+1,1,none⟩) (by simp) (.slice (some ⟨g5,0,none⟩) (bs.length+1) cap5)
   refine zb fun K hK=>?_
   go_simp
   refine hK.out _ _ ?_
   refine zh ?_
   go_wp2_with fail
   go_roundw
   case rel=>exact⟨k+1,_,bs++[b],by omega,by go_num,by rw [Htk.out];exact p3,za (by rw [List.length_append,hbl.out];rfl),bz6,hw6⟩
   case measure=>simp [intOf];omega
  ·obtain rfl:n=k:=by omega
   obtain⟨M,d,rfl⟩:∃ M d,v=.slice M n d:=by
    have ho:=hgr.own
    rw [hbl.out] at ho
    exact zl ho
   have cG:=hgr.blk.cell
   have cZ:=bz.cell
   have fZ:=bz.frozen
   have hfl:Frm (fun k=>k=w.heap.size) wr ((wr.setCell ⟨w.heap.size,0,none⟩ (.slice A n c)).setCell ⟨w.heap.size,1,none⟩ (.slice M n d)):=(Frm.setCell wr _ 0 _).trans (Frm.setCell _ _ 1 _)
   have hbf:Blk ((wr.setCell ⟨w.heap.size,0,none⟩ (.slice A n c)).setCell ⟨w.heap.size,1,none⟩ (.slice M n d)) w.heap.size 151 #[.slice A n c,.slice M n d]:=by simpa using (bz.set_ 0 (.slice A n c)).set_ 1 (.slice M n d)
   have hxf:=hw.frm hfl (fun k hk e=>by omega)
   have zes:=za (show ∃ M' d',Ending.returned (.agg #[.slice A n c,.slice M n d])=.returned (.agg #[.slice A n c,.slice M' n d'])∧PtAt ((wr.setCell ⟨w.heap.size,0,none⟩ (.slice A n c)).setCell ⟨w.heap.size,1,none⟩ (.slice M n d)) lo hi A n w.heap.size ((wr.setCell ⟨w.heap.size,0,none⟩ (.slice A n c)).setCell ⟨w.heap.size,1,none⟩ (.slice M n d)).heap.size M' ss∧Ext w ((wr.setCell ⟨w.heap.size,0,none⟩ (.slice A n c)).setCell ⟨w.heap.size,1,none⟩ (.slice M n d)) from by
    refine⟨M,d,rfl,⟨HS.out _ hxf,bs,?_,?_⟩,hxf⟩
    ·have ho:=zaw hgr.own hfl (fun b h1 e=>by omega)
     rw [hbl.out] at ho
     exact (Reads.of_own ho).more (by omega) (Nat.le_refl _)
    ·have hm:=hgr.mov
     rw [List.take_of_length_le (by have:=hL.out;omega)] at hm
     exact hm.frm hfl (fun b cs hc hS=>by
      subst hS
      unfold Blk at hc bz
      rw [hc] at bz
      injection bz with bz
      injection bz with _ ht
      exact absurd ht (by decide)))
   go_wp2_with fail
   generalize (wr.setCell ⟨w.heap.size,0,none⟩ (.slice A n c)).setCell ⟨w.heap.size,1,none⟩ (.slice M n d)=wf at *
   have cf:=hbf.cell
   exact bodyPost_ret (v:=.agg #[.slice A n c,.slice M n d]) (by simp [results,Tryd.results123,go_sem,cf]) rfl zes.out
theorem spec_l4In {A:Option Addr} {c n:Nat} {lo hi x:Nat} {xs:List Nat} {w:World}(h:Lst NatP w lo hi A xs)(hn:xs.length=n) :
  Calls Tryd.prog 101 #[.slice A n c,.int .i64 x] w fun e w'=>e=.returned (.bool (decide (x∈xs)))∧w=w':=by
 have Hn:=za hn
 have hlen:=h.len
 rw [hn] at hlen
 clear hn
 go_enter Tryd.func101,Tryd.ntmps101
 go_wp2
 go_loop [5] (fun i=>∃ k:Nat,k≤n∧i=.int .i64 k∧Hid (∀ (j z:Nat),j<k→xs[j]?=some z→z≠x)) (fun i=>n - (intOf i).toNat)
 case atStart=>exact⟨0,Nat.zero_le _,rfl,(show Hid _ from fun j z hj=>by omega)⟩
 case round =>
  obtain⟨k,hk,rfl,hno⟩:=hrel
  by_cases hlt:k<n
  ·obtain⟨b,o,z,rfl,_,_,hz,hc⟩:=h.num (show k<xs.length by rw [Hn.out];exact hlt)
   by_cases hzx:z=x
   ·subst hzx
    have hm:=za (List.mem_of_getElem? hz.out)
    go_wp2
    go_ret
    exact⟨zf (by rw [decide_eq_true hm.out]),rfl⟩
   ·have hne:((z:Int)==(x:Int))=false:=by simp;omega
    go_wp2
    go_round
    case rel=>exact⟨k+1,by omega,by go_num,(show Hid _ from fun j y hj hy=>by
     by_cases e:j=k
     ·subst e
      have:=hz.out
      rw [hy] at this
      injection this with this
      subst this
      exact hzx
     ·exact hno.out j y (by omega) hy)⟩
    case measure=>simp [intOf];omega
  ·obtain rfl:n=k:=by omega
   have hm:=za (show ¬ x∈xs from fun hx=>by
    obtain⟨j,hj⟩:=List.getElem?_of_mem hx
    exact hno.out j x (by have:=(List.getElem?_eq_some_iff.1 hj).1;rw [Hn.out] at this;exact this) hj rfl)
   go_wp2
   go_ret
   exact⟨zf (by rw [decide_eq_false hm.out]),rfl⟩
def accB (a:Aut) (q:Nat):Bool:=a.acc.getD q false
theorem zcK {w:World} {base n c v:Nat} {A:Option Addr} {xs:List Nat}(h:w.ownsRow base 3 1 (.slice A n c) n (zF xs))(hv:v∈xs) :
  Calls Tryd.prog 102 #[.slice A n c,.int .i64 (v:Nat)] w fun e w'=>∃ i:Nat,e=.returned (.int .i64 i)∧Hid (xs[i]?=some v)∧w=w':=by
 have hl:=za (show xs.length=n by have:=h.1;rw [zad] at this;omega)
 have hnm:=(Reads.of_own h).len
 obtain⟨k0,hk0⟩:=List.getElem?_of_mem hv
 have hk0n:k0<n:=by rw [← hl.out];exact (List.getElem?_eq_some_iff.1 hk0).1
 obtain⟨g,rfl⟩:∃ g,A=some ⟨g,0,none⟩:=by
  rcases h.2 with ⟨_,hh⟩|⟨g,cap,cur,hv,_⟩
  ·omega
  ·exact⟨g,by injection hv⟩
 have Hc:=za (fun (k:Nat) (x:Nat) (hk:xs[k]?=some x)=>(show w.cell? ⟨g,k,none⟩=some (.int .i64 (x:Nat)) by
  have:=(List.getElem?_eq_some_iff.1 hk).1
  rw [h.cellAt k (by have:=hl.out;omega)];simp [zF,hk]))
 have Hk0:=za hk0
 clear h hv hk0
 go_enter Tryd.func102,Tryd.ntmps102
 go_wp2
 go_loopw [5] (fun i wr=>∃ k:Nat,k≤k0∧i=.int .i64 k∧w=wr) (fun i _=>k0 - (intOf i).toNat)
 case atStart=>exact⟨0,by omega,rfl,rfl⟩
 case round =>
  obtain⟨k,hk,rfl,rfl⟩:=hrel
  obtain⟨x,hx⟩:∃ x,Hid (xs[k]?=some x):=⟨_,za (List.getElem?_eq_getElem (by rw [hl.out];omega))⟩
  have c1:=Hc.out k x hx.out
  have hkc:(k:Int)<(n:Int):=by omega
  by_cases hxv:x=v
  ·subst hxv
   have zes:=za hx.out
   go_wp2
   go_ret
   exact⟨k,rfl,zes,by first|trivial|rfl⟩
  ·have hne:((x:Int) != (v:Int))=true:=by simp;omega
   have hkk:k≠k0:=by
    rintro rfl
    have h1:=hx.out
    rw [Hk0.out] at h1
    exact hxv (Option.some.inj h1).symm
   go_wp2
   go_roundw
   case rel=>exact⟨k+1,by omega,by go_num,by first|trivial|rfl⟩
   case measure=>simp [intOf];omega
theorem zel {R M L:Nat} {A:Option Addr} {n c:Nat} {A':Option Addr} {n' c':Nat} {b:Aut} {w:World}(h:Rd w R M)(hM:M≤900000000)(ho:zX w (R+1) A n c A' n' c' b)(hb:BdA L b)(hL:L≤100) :
  Calls Tryd.prog 28 #[.pointer (some ⟨R,0,none⟩),.agg #[.int .i64 b.al,.slice A n c,.slice A' n' c']] w (zcb R (M+10) (BdA (L+1)) w):=by
 have hRl:=h.lt
 have hsz:=hb.size (by omega)
 go_enter Tryd.func28,Tryd.ntmps28
 have hx0:=(Ext.refl w).alloc (.cells #[.int .i64 b.al,.slice A n c,.slice A' n' c'] 30)
 have b0:=Blk.new w 30 #[.int .i64 b.al,.slice A n c,.slice A' n' c']
 have hs0:(w.alloc (.cells #[.int .i64 b.al,.slice A n c,.slice A' n' c'] 30)).heap.size=w.heap.size+1:=by simp
 have hx1:=hx0.alloc (.cells #[.int .i64 0,.slice none 0 0,.slice none 0 0] 30)
 have bz:=Blk.new (w.alloc (.cells #[.int .i64 b.al,.slice A n c,.slice A' n' c'] 30)) 30 #[.int .i64 0,.slice none 0 0,.slice none 0 0]
 replace b0:=b0.ext ((Ext.refl _).alloc (.cells #[.int .i64 0,.slice none 0 0,.slice none 0 0] 30))
 rw [hs0] at bz
 have c0:=b0.cell
 go_upto_region 1 with fail
 generalize (w.alloc (.cells #[.int .i64 b.al,.slice A n c,.slice A' n' c'] 30)).alloc (.cells #[.int .i64 0,.slice none 0 0,.slice none 0 0] 30)=w1 at *
 have hz1:=bz.lt
 go_wp2_with fail
 refine (zdp (ho.ext hx1).reads hsz).mono ?_
 rintro e w2 ⟨B,m,d,B',m',d',rfl,zep,hx2⟩
 obtain⟨rows,zeq⟩:=zax.of (R:=R) (M:=M) zep (h.ext (hx1.trans hx2)) hx2.dr (by omega)
 have hG:=hx2.size
 have hm:m=b.next.length:=zep.2.1
 have hm':m'=b.acc.length:=zep.2.2.2
 have hmL:m≤100:=by have:=hb.1;omega
 have Hm:=za hm
 have Hb:=za hb
 subst hm'
 clear zep ho hm hb hsz
 go_upto_region 2 with fail
 generalize w2.alloc (.cells #[.int .i64 b.al,.slice B m d,.slice B' b.acc.length d'] 30)=w3 at *
 generalize w2.heap.size=G at *
 have cG:=zeq.blk.cell
 by_cases hm0:m=0
 ·subst hm0
  have zes:=zeq
  rw [show (Value.slice B' b.acc.length d')=Value.slice B' b.acc.length d' from rfl] at zes
  obtain⟨f1,f2⟩:=zes.fin (N:=M+10) (sh:=BdA (L+1)) hx1 bz rfl hRl (by omega) hz1 (by omega) (Hb.out.more (by omega))
  have bz5:=bz.dr zeq.dr (by omega)
  have cZ:=bz5.cell
  have fZ:=bz5.frozen
  clear zes
  go_wp2_with fail
  have cf:=f2.cell
  exact bodyPost_ret (v:=.agg #[.int .i64 b.al,.slice B 0 d,.slice B' b.acc.length d']) (by simp [results,Tryd.results28,go_sem,cf]) rfl f1.out
 have hm1:((m:Int)==0)=false:=by simp;omega
 go_wp2_with fail
 refine (zg zeq.rd (by omega)).mono ?_
 rintro e w4 ⟨k,rfl,hk1,-,hr4,hd4⟩
 replace zeq:=zeq.drawn hd4 hr4
 have hkm:k<m:=by have:=hk1 (by omega);omega
 clear hd4 hr4 cG hk1 hm1
 go_wp2_with fail
 refine (zg zeq.rd (by omega)).mono ?_
 rintro e w5 ⟨y,rfl,-,-,hr5,hd5⟩
 replace zeq:=zeq.drawn hd5 hr5
 clear hd5 hr5
 go_upto_block 0 with fail
 go_cut [] (fun wx=>∃ (v:Value) (rows:List Value) (ls:List (List Int)) (vA:Value) (acc:List Bool),zax w1 wx R G (M+10) b.al v rows ls vA acc∧Hid (BdL (L+1) ls acc))
 case first =>
  have hkb:k<b.next.length:=by have:=Hm.out;omega
  obtain⟨l,hl⟩:∃ l,b.next[k]?=some l:=⟨_,List.getElem?_eq_getElem hkb⟩
  obtain⟨gN,rfl,hgN,-⟩:=zaf (show w5.ownsRow w1.heap.size 62 1 (.slice B m d) m rows from by have:=zeq.nx;rw [← Hm.out] at this;exact this) (by omega)
  obtain⟨Ar,cr,hr,hcell,hor⟩:=zeq.row hl Hm.out
  have hll:l.length≤100:=by have:=Hb.out.2.2 l (List.mem_of_getElem? hl);omega
  have HL:=za hl
  have HR:=za hr
  have Hbl:=za (Hb.out.2.2 l (List.mem_of_getElem? hl))
  have hs1:=zeq.dr.size
  clear hl hr hkb
  have hcases:y=0∨y=1∨y=2∨3≤y:=by omega
  rcases hcases with hy|hy|hy|hy
  ·subst hy
   have hy0:True:=trivial
   have cG:∀ W,Ext w5 W→∀ q,W.cell? ⟨G,q,none⟩=#[Value.int .i64 b.al,.slice (some ⟨gN,0,none⟩) m d,.slice B' b.acc.length d'][q]?:=fun W hW=>(zeq.blk.ext hW).cell
   by_cases hka:k<b.acc.length
   ·obtain⟨gA,rfl,hgA,-⟩:=zaf zeq.acc (by omega)
    obtain⟨x,hx⟩:∃ x,b.acc[k]?=some x:=⟨_,List.getElem?_eq_getElem hka⟩
    have hca:w5.cell? ⟨gA,k,none⟩=some (.bool x):=by rw [zeq.acc.cellAt k (by omega)];simp [zL,hx]
    have cA:∀ W,Ext w5 W→W.cell? ⟨gA,k,none⟩=some (.bool x):=fun W hW=>hW.cell_some hca
    have fA:∀ W,Ext w5 W→W.frozen? ⟨gA,k,none⟩=false:=fun W hW=>(zm zeq.acc hW).frozenAt k
    have hst:=(zeq.ext (Ext.refl w5).drew).setAcc (i:=k) (x:=!x) rfl
    have hka':(k:Int)<(b.acc.length:Int):=by omega
    have hww:=Ext.refl w5
    clear hca hx
    go_wp2_with fail
    refine tR (fun X=>Ext w5 X) [10] (Ord.of [0,1,2,3,4,5,6,7,8,9,10]) ?_
    refine tQ ?_
    refine zi fun K hK=>?_
    go_simp
    refine hK.out _ _ ?_
    refine zr ?_
    go_wp2_with fail
    go_meet
    exact⟨_,_,_,_,_,hst.more (by omega),za ⟨by have:=Hb.out.1;omega,by have:=Hb.out.2.1;rw [List.length_set];omega,fun l' hl'=>by have:=Hb.out.2.2 l' hl';omega⟩⟩
   ·have hka':¬ ((b.acc.length:Int)>(k:Int)):=by omega
    have hww:=Ext.refl w5
    go_wp2_with fail
    go_meet
    exact⟨_,_,_,_,_,zeq.more (by omega),za (Hb.out.more (by omega))⟩
  ·subst hy
   have hy0:True:=trivial
   by_cases hl0:0<l.length
   ·obtain⟨gr,rfl,-,-⟩:=zaf hor hl0
    have hRG:=zeq.hR
    have cN:∀ W,Dr R w5 W→W.cell? ⟨gN,k,none⟩=some (.slice (some ⟨gr,0,none⟩) l.length cr):=fun W hW=>hW.cell_some hcell (by simp;omega)
    have cG:∀ W,Dr R w5 W→∀ q,W.cell? ⟨G,q,none⟩=#[Value.int .i64 b.al,.slice (some ⟨gN,0,none⟩) m d,.slice B' b.acc.length d'][q]?:=fun W hW=>(zeq.blk.dr hW (by have:=zeq.hG;omega)).cell
    have hd0:=Dr.refl R w5
    clear hcell hor
    go_wp2_with fail
    refine tR (fun X=>Dr R w5 X) [17] (Ord.of [0,1,2,3,4,5,6,7,8,9,10,11,13,14,12,15,16,17]) ?_
    refine tQ ?_
    refine zc fun K hK=>?_;go_simp
    refine (zg (n:=l.length) (zeq.rd.ext (Ext.refl _).drew) (by omega)).mono ?_
    rintro e w6 ⟨j,rfl,hj1,-,hr6,hd6⟩
    have hjl:=hj1 (by omega)
    have hd56:Dr R w5 w6:=(Dr.refl R w5).drew.trans hd6
    refine hK.out _ _ hd56 ?_
    refine pT ?_
    refine tQ ?_
    refine zc fun K hK=>?_;go_simp
    refine (zg (n:=m) hr6 (by omega)).mono ?_
    rintro e w7 ⟨x,rfl,hx1',-,hr7,hd7⟩
    have hd57:Dr R w5 w7:=hd56.trans hd7
    have hacc7:=zeq.drawn hd57 hr7
    refine hK.out _ _ hd57 ?_
    refine pT ?_
    refine tQ ?_
    have zep:=hacc7.rows.2.1 k _ l HR.out HL.out
    obtain⟨o0,c0⟩:=zav zep j (by omega)
    have f0:=zep.frozenAt j
    have hst:=hacc7.setRow (k:=j) (x:=x) HR.out HL.out rfl
    refine zi fun K hK=>?_
    go_simp
    refine hK.out _ _ ?_
    refine zr ?_
    go_wp2_with fail
    go_meet
    refine⟨_,_,_,_,_,hst.more (by omega),za ⟨by have:=Hb.out.1;rw [List.length_set];omega,by have:=Hb.out.2.1;omega,fun l' hl'=>?_⟩⟩
    rcases List.mem_or_eq_of_mem_set hl' with h1|h1
    ·have:=Hb.out.2.2 l' h1;omega
    ·rw [h1];simp;have:=Hbl.out;omega
   ·have hl1:l.length=0:=by omega
    have hl2:¬ ((l.length:Int)>0):=by omega
    have cG:=zeq.blk.cell
    go_wp2_with fail
    go_meet
    exact⟨_,_,_,_,_,zeq.more (by omega),za (Hb.out.more (by omega))⟩
  ·subst hy
   have hy0:True:=trivial
   have cG:∀ W,Ext w5 W→∀ q,W.cell? ⟨G,q,none⟩=#[Value.int .i64 b.al,.slice (some ⟨gN,0,none⟩) m d,.slice B' b.acc.length d'][q]?:=fun W hW=>(zeq.blk.ext hW).cell
   have cNx:∀ W,Ext w5 W→W.cell? ⟨gN,k,none⟩=some (.slice Ar l.length cr):=fun W hW=>hW.cell_some hcell
   have hww:=Ext.refl w5
   by_cases h1:12≤m
   ·have h1':¬ ((m:Int)<12):=by omega
    go_wp2_with fail
    go_meet
    exact⟨_,_,_,_,_,zeq.more (by omega),za (Hb.out.more (by omega))⟩
   have h1':(m:Int)<12:=by omega
   by_cases h2:b.acc.length≤k
   ·have h2':¬ ((b.acc.length:Int)>(k:Int)):=by omega
    go_wp2_with fail
    go_meet
    exact⟨_,_,_,_,_,zeq.more (by omega),za (Hb.out.more (by omega))⟩
   have h2':(b.acc.length:Int)>(k:Int):=by omega
   by_cases h3:l.length≤0
   ·have h3':¬ ((l.length:Int)>0):=by omega
    have h3'':l.length=0:=by omega
    go_wp2_with fail
    go_meet
    exact⟨_,_,_,_,_,zeq.more (by omega),za (Hb.out.more (by omega))⟩
   have hmes:=za zeq.lenAt
   have hrdl:=Reads.of_own hor
   have Hrd:=za (fun W (hW:Ext w5 W)=>hrdl.ext hW)
   have hlow:=za zeq.low
   have hor':=za hor
   clear hcell hor hrdl
   go_upto_region 15 with fail
   refine uR (fun X=>Ext w5 X) [10,12] (zE.of [0,1,3,4,5,6,7,2,8,9,10,11,12]) ?_
   refine uQ ?_
   have hx0:Ext w5 w5.drew:=hww.drew
   generalize w5.drew=wd at *
   refine ze fun K hK=>?_;go_simp
   have hm:=World.ownsRow_made (base:=w5.heap.size) (e:=3) (size:=1) wd #[] 0 hx0.size (Nat.zero_le _) rfl
   have hx1:=(Ext.refl wd).alloc (.cells #[] 3)
   replace hx0:=hx0.trans hx1
   refine hK.out _ _ hx0 ?_
   generalize wd.alloc (.cells #[] 3)=wm at *
   generalize wd.heap.size=MM at *
   refine pT ?_
   refine uQ ?_
   refine ze (fun K hK=>?_)
   refine zaR wm _ _ 62 rfl w5.heap.size 3 _ 1 8 Tryd.underlying62 zS rfl (by decide) (.slice (some ⟨MM,0,none⟩) 0 0) 0 [] rfl hm _ _ Ar l.length cr (ints l) rfl (Hrd.out _ hx0) (zed _) (by unfold maxLen;omega) (by omega) hx0.size ?_
   intro vR w6 hrow hgR hatR
   rw [Nat.zero_add,List.nil_append] at hrow
   obtain⟨BR,dR,rfl⟩:=zl hrow
   have hww3:Ext w5 w6:=hx0.grown hgR (fun k hk=>(hm.lt k hk).1)
   refine hK.out _ _ hww3 ?_
   refine pT ?_
   refine uQ ?_
   refine ze fun K hK=>?_;go_simp
   refine hK.out _ _ (hww3.alloc _) ?_
   refine pT ?_
   refine zb fun K hK=>?_
   have hacc6:=zeq.ext hww3
   have hnx6:=hacc6.nx
   rw [← Hm.out] at hnx6
   refine zab w1 w6 _ _ _ rfl 62 _ 1 24 Tryd.underlying22 zbb rfl (by decide) (.slice (some ⟨gN,0,none⟩) m d) m rows _ _ rfl rfl hacc6.dr.size hnx6 rfl (zaF _ _ _) (by unfold maxLen;omega) (by omega) ?_
   intro g7 cap7 w7 hown7 hg7 hat7 hlt7
   refine hK.out _ _ ?_
   refine pT ?_
   refine uQ ?_
   obtain⟨p1,p2,p3⟩:=hacc6.pushRow (l:=l) (W':=w7) (g:=g7) (cap:=cap7) hlow.out hs1 hrow (by rw [← Hm.out];exact hown7) hg7 hat7
   have p1':=p1.out
   rw [← Hm.out] at p3
   refine zb fun K hK=>?_
   go_simp
   refine hK.out _ _ ?_
   refine zh ?_
   generalize w7.setCell ⟨G,1,none⟩ (.slice (some ⟨g7,0,none⟩) (m+1) cap7)=w8 at *
   have hs8:=p3.dr.size
   clear p1 p1' p2 cG cNx hown7 hg7 hat7 hacc6 zeq hnx6 hww3 hx0 hx1
   obtain⟨gA,rfl,hgA,-⟩:=zaf p3.acc (by omega)
   obtain⟨x,hx⟩:∃ x,b.acc[k]?=some x:=⟨_,List.getElem?_eq_getElem (by omega)⟩
   have hca:w8.cell? ⟨gA,k,none⟩=some (.bool x):=by rw [p3.acc.cellAt k (by omega)];simp [zL,hx]
   have cA:∀ W,Ext w8 W→W.cell? ⟨gA,k,none⟩=some (.bool x):=fun W hW=>hW.cell_some hca
   have cG8:∀ W,Ext w8 W→∀ q,W.cell? ⟨G,q,none⟩=#[Value.int .i64 b.al,.slice (some ⟨g7,0,none⟩) (m+1) cap7,.slice (some ⟨gA,0,none⟩) b.acc.length d'][q]?:=fun W hW=>(p3.blk.ext hW).cell
   have hww:=Ext.refl w8
   clear hca hx
   go_upto_region 16 with fail
   refine uR (fun X=>Ext w8 X) [8,10] (zE.of [0,1,2,3,4,5,6,7,8,9,10]) ?_
   refine uQ ?_
   have hx8:Ext w8 w8.drew:=hww.drew
   generalize w8.drew=wd2 at *
   refine ze fun K hK=>?_;go_simp
   refine hK.out _ _ (hx8.alloc _) ?_
   refine pT ?_
   refine zb fun K hK=>?_
   have hacc8:=p3.ext hx8
   refine zab w1 wd2 _ _ _ rfl 4 _ 1 1 Tryd.underlying23 zal rfl (by decide) (.slice (some ⟨gA,0,none⟩) b.acc.length d') b.acc.length (zL b.acc) _ _ rfl rfl hacc8.dr.size hacc8.acc rfl (by simp [Value.oneCell']) (by unfold maxLen;have:=Hb.out.2.1;omega) (by have:=Hb.out.2.1;omega) ?_
   intro g9 cap9 w9 hown9 hg9 hat9 hlt9
   refine hK.out _ _ ?_
   refine pT ?_
   refine uQ ?_
   obtain⟨q1,q2,q3⟩:=hacc8.pushAcc (x:=x) hown9 hg9 hat9
   have q1':=q1.out
   refine zb fun K hK=>?_
   go_simp
   refine hK.out _ _ ?_
   refine zh ?_
   generalize w9.setCell ⟨G,2,none⟩ (.slice (some ⟨g9,0,none⟩) (b.acc.length+1) cap9)=w10 at *
   clear q1 q1' q2 cG8 cA hacc8 p3 hown9 hg9 hat9 hx8
   have hkl:k<rows.length:=by have:=q3.rows.1;simp at this;have:=Hm.out;omega
   have hR2:(rows++[Value.slice BR l.length dR])[k]?=some (.slice Ar l.length cr):=by rw [List.getElem?_append_left hkl];exact HR.out
   have hL2:(b.next++[l])[k]?=some l:=by rw [List.getElem?_append_left (by have:=Hm.out;omega)];exact HL.out
   have zep:=q3.rows.2.1 k _ l hR2 hL2
   obtain⟨gr,rfl,-,-⟩:=zaf zep (by omega)
   obtain⟨o0,c0⟩:=zav zep 0 (by omega)
   have f0:=zep.frozenAt 0
   have hst:=q3.setRow (k:=0) (x:=m) hR2 hL2 rfl
   have cG:=q3.blk.cell
   have cN:w10.cell? ⟨g7,k,none⟩=some (.slice (some ⟨gr,0,none⟩) l.length cr):=by
    have:=q3.nx
    rw [List.length_append,List.length_singleton,← Hm.out] at this
    rw [this.cellAt k (by omega)];exact hR2
   clear zep hR2 hL2
   go_wp2_with fail
   go_meet
   refine⟨_,_,_,_,_,hst.more (by omega),za ⟨by have:=Hb.out.1;rw [List.length_set];simp;omega,by have:=Hb.out.2.1;simp;omega,fun l' hl'=>?_⟩⟩
   rcases List.mem_or_eq_of_mem_set hl' with h1|h1
   ·rcases List.mem_append.1 h1 with h1|h1
    ·have:=Hb.out.2.2 l' h1;omega
    ·rw [List.mem_singleton.1 h1];have:=Hbl.out;omega
   ·rw [h1];simp;have:=Hbl.out;omega
  ·have h0':((y:Int)==0)=false:=by simp;omega
   have h1':((y:Int)==1)=false:=by simp;omega
   have h2':((y:Int)==2)=false:=by simp;omega
   go_wp2_with fail
   go_meet
   exact⟨_,_,_,_,_,zeq.more (by omega),za (Hb.out.more (by omega))⟩
 case rest =>
  clear zeq
  obtain⟨v,rows,ls,vA,acc,zeq,hbd⟩:=hcut
  obtain⟨A5,c5,rfl⟩:=zl zeq.nx
  obtain⟨B5,d5,rfl⟩:=zl zeq.acc
  obtain⟨f1,f2⟩:=zeq.fin (N:=M+10) (sh:=BdA (L+1)) hx1 bz rfl hRl (by omega) hz1 (by omega) hbd.out
  have bz5:=bz.dr zeq.dr (by omega)
  have cG:=zeq.blk.cell
  have cZ:=bz5.cell
  have fZ:=bz5.frozen
  go_wp2_with fail
  have cf:=f2.cell
  exact bodyPost_ret (v:=.agg #[.int .i64 b.al,.slice A5 ls.length c5,.slice B5 acc.length d5]) (by simp [results,Tryd.results28,go_sem,cf]) rfl f1.out
theorem own_typ {w:World} {base:Nat} {e:TypeId} {size n b:Nat} {v:Value} {xs:List Value}(h:w.ownsRow base e size v n xs)(hb:v.ownBlock=some b):∃ cur,w.heap[b]?=some (.cells cur e (0,0)):=by
 rcases h.2 with ⟨rfl,_⟩|⟨g,cap,cur,rfl,_,hh,_⟩
 ·simp [Value.ownBlock] at hb
 ·have:g=b:=by simpa [Value.ownBlock] using hb
  subst this
  exact⟨cur,hh⟩
theorem zX.frmT {S:Nat→Prop} {w w':World} {base:Nat} {A:Option Addr} {n c:Nat} {A':Option Addr} {n' c':Nat} {a:Aut}(h:zX w base A n c A' n' c' a)(hb:Frm S w w')
  (hS:∀ k,S k→∀ cs t,w.heap[k]?=some (.cells cs t (0,0))→t≠3∧t≠62∧t≠4):zX w' base A n c A' n' c' a:=by
 obtain⟨⟨rows,h1,h2⟩,h3,h4,h5⟩:=h
 refine⟨⟨rows,zj h1 hb (fun b hv hs=>?_),h2.frm hb (fun i r b hr hb hs=>?_)⟩,h3,zj h4 hb (fun b hv hs=>?_),h5⟩
 ·obtain⟨cs,hc⟩:=own_typ h1 hv
  exact (hS b hs cs _ hc).2.1 rfl
 ·obtain⟨l',_,ho⟩:=h2.row hr
  obtain⟨cs,hc⟩:=own_typ ho hb
  exact (hS b hs cs _ hc).1 rfl
 ·obtain⟨cs,hc⟩:=own_typ h4 hv
  exact (hS b hs cs _ hc).2.2 rfl
theorem zX.farT {w w':World} {base G:Nat} {A:Option Addr} {n c:Nat} {A':Option Addr} {n' c':Nat} {a:Aut} {cs:Array Value} {t:TypeId}(h:zX w base A n c A' n' c' a)(hB:Blk w G t cs)(hf:Frm (fun k=>k=G) w w')(ht:t≠3∧t≠62∧t≠4):zX w' base A n c A' n' c' a:=
 h.frmT hf (fun k hk cs' t' hh=>by
  subst hk
  unfold Blk at hB
  rw [hB] at hh
  injection hh with hh
  injection hh with _ h2
  subst h2
  exact ht)
theorem Dr.far {R Z:Nat} {a b c:World}(h:Dr R a b)(hf:Frm (fun k=>k=Z) b c)(hZ:a.heap.size≤Z):Dr R a c:=
 ⟨hf.os.trans h.os,hf.tape.trans h.tape,hf.output.trans h.output,Nat.le_trans h.size hf.size,fun k hk hn=>(hf.block k (Nat.lt_of_lt_of_le hk h.size) (fun e=>by omega)).trans (h.block k hk hn)⟩
theorem zbE (W:World) (Z:Nat) (u0 u1 u2:Value):Frm (fun k=>k=Z) W (((W.setCell ⟨Z,0,none⟩ u0).setCell ⟨Z,1,none⟩ u1).setCell ⟨Z,2,none⟩ u2):=
 ((Frm.setCell W Z 0 u0).trans (Frm.setCell _ Z 1 u1)).trans (Frm.setCell _ Z 2 u2)
theorem zbD {w:World} {Z:Nat} {cs:Array Value} {t:TypeId}(h:Blk w Z t cs)(hc:cs.size=3) (u0 u1 u2:Value):Blk (((w.setCell ⟨Z,0,none⟩ u0).setCell ⟨Z,1,none⟩ u1).setCell ⟨Z,2,none⟩ u2) Z t #[u0,u1,u2]:=by
 obtain⟨l⟩:=cs
 match l,hc with
 |[a,b,c],_=>simpa using ((h.set_ 0 u0).set_ 1 u1).set_ 2 u2
structure zcc (w0 W:World) (R M L K:Nat) (s:Sys) (A:Option Addr) (n c:Nat) (t:Sys) (C:Option Addr) (k c2:Nat) (p:Aut) (B:Option Addr) (m d:Nat) (B':Option Addr) (m' d':Nat):Prop where
 is:zK W R A n s
 it:zK W R C k t
 ip:zX W (R+1) B m d B' m' d' p
 ns:(n≤L∧n≤c)∧(k≤L∧k≤c2)
 bd:Hid (BdA K p)
 rd:Rd W R M
 dr:Dr R w0 W
 hR:R<w0.heap.size
section
variable {w0 W W':World} {R M L K N J H Z n c k c2 m d m' d':Nat} {s t:Sys} {p:Aut} {A B B' C:Option Addr}
theorem zcc.drawn (h:zcc w0 W R M L K s A n c t C k c2 p B m d B' m' d')(hd:Dr R W W')(hr:Rd W' R N):zcc w0 W' R N L K s A n c t C k c2 p B m d B' m' d':=
 ⟨h.is.dr hd,h.it.dr hd,h.ip.keep hd (fun b h1 e=>by omega),h.ns,h.bd,hr,h.dr.trans hd,h.hR⟩
theorem zcc.ext (h:zcc w0 W R M L K s A n c t C k c2 p B m d B' m' d')(hx:Ext W W'):zcc w0 W' R M L K s A n c t C k c2 p B m d B' m' d':=h.drawn hx.dr (h.rd.ext hx)
theorem zcc.more (h:zcc w0 W R M L K s A n c t C k c2 p B m d B' m' d')(hM:M≤N)(hL:L≤J)(hK:K≤H):zcc w0 W R N J H s A n c t C k c2 p B m d B' m' d':=
 ⟨h.is,h.it,h.ip,by have:=h.ns;omega,za (BdL.more h.bd.out hK),h.rd.more hM,h.dr,h.hR⟩
theorem zcc.far {ty:TypeId} {cs:Array Value}(h:zcc w0 W R M L K s A n c t C k c2 p B m d B' m' d')(hB:Blk W Z ty cs)(hf:Frm (fun k=>k=Z) W W')(hZ:w0.heap.size≤Z)(h1:ty≠116)(h2:ty≠3∧ty≠62∧ty≠4):zcc w0 W' R M L K s A n c t C k c2 p B m d B' m' d':=
 ⟨h.is.far hB h1 hf,h.it.far hB h1 hf,h.ip.farT hB hf h2,h.ns,h.bd,h.rd.frm hf (fun k hk e=>by have:=h.hR;omega),h.dr.far hf hZ,h.hR⟩
end
theorem ret_noS {w W:World} {Z:Nat}(hd:Ext w W)(hZ:w.heap.size≤Z) :
  zdT w (.returned (.tuple #[.agg #[.int .i64 0,.slice none 0 0,.slice none 0 0],.bool false])) (((W.setCell ⟨Z,0,none⟩ (.int .i64 0)).setCell ⟨Z,1,none⟩ (.slice none 0 0)).setCell ⟨Z,2,none⟩ (.slice none 0 0)):=
 ⟨⟨0,[],[]⟩,none,0,0,none,0,0,false,rfl,⟨⟨[],World.ownsRow_nil _ _ _ _,zq.nil _ _⟩,rfl,World.ownsRow_nil _ _ _ _,rfl⟩,za ⟨Nat.zero_le _,Nat.zero_le _,fun l hl=>by cases hl⟩,((hd.setCell (p:=⟨Z,0,none⟩) hZ _).setCell (p:=⟨Z,1,none⟩) hZ _).setCell (p:=⟨Z,2,none⟩) hZ _⟩
theorem zdH {lo hi n c a k0:Nat} {A:Option Addr} {s:Sys} {w:World}(h:zQ w lo hi A n s)(hf:Few k0 s.edges)(hk0:k0≤16)(hal:s.al=(a:Int))(ha:a<64) :
  Calls Tryd.prog 62 #[.agg #[.int .i64 s.al,.int .i64 s.st,.slice A n c],.int .i64 s.al] w (zdT w):=by
 have hsm:Sm a:=by unfold Sm;omega
 have hband:bits .and .i64 s.al s.al=s.al:=by rw [hal,zbj hsm hsm,Nat.and_self]
 have HL:=za (fun W=>show Calls Tryd.prog 76 #[.int .i64 s.al] W (zdR W (letters a 6)) from by rw [hal];exact zai a hsm W)
 have HR:=za (fun (x:Nat) W (hW:Ext w W)=>zek (c:=c) (set:=x) (h.ext hW) hf)
 have HS:=za (fun (x:Nat) (l:Int) W (hW:Ext w W) (hx:Sm x)=>zaQ (c:=c) (l:=l) (h.ext hW) hf hk0 hx)
 have Hsm:=za (fun (x:Nat) (l:Int)=>show Sm (zaE s.edges x l) from by
  have h1:=zcX hf x l
  have h2:2 ^ k0≤2 ^ 16:=Nat.pow_le_pow_right (by omega) hk0
  unfold Sm
  omega)
 have HN:=za (zn a 6)
 have h64:s.al<64:=by omega
 have h00:0≤s.al:=by omega
 clear h hf hk0 hal ha hsm
 have hx0:Ext w ((w.alloc (.cells #[.int .i64 s.al,.int .i64 s.st,.slice A n c] 39)).alloc (.cells #[.int .i64 0,.slice none 0 0,.slice none 0 0] 30)):=((Ext.refl _).alloc _).alloc _
 obtain⟨b0,bz⟩:=zv (Ext.refl ((w.alloc (.cells #[.int .i64 s.al,.int .i64 s.st,.slice A n c] 39)).alloc (.cells #[.int .i64 0,.slice none 0 0,.slice none 0 0] 30)))
 have hsz0:((w.alloc (.cells #[.int .i64 s.al,.int .i64 s.st,.slice A n c] 39)).alloc (.cells #[.int .i64 0,.slice none 0 0,.slice none 0 0] 30)).heap.size=w.heap.size+2:=by simp
 go_enter Tryd.func62,Tryd.ntmps62
 go_upto_region 1 with fail
 generalize (w.alloc (.cells #[.int .i64 s.al,.int .i64 s.st,.slice A n c] 39)).alloc (.cells #[.int .i64 0,.slice none 0 0,.slice none 0 0] 30)=wA at *
 have c0:=b0.cell
 have hw0:IntKind.i64.wrap (s.al - s.al)=0:=by rw [Int.sub_self];rfl
 have hw1:IntKind.i64.wrap 0=0:=rfl
 go_upto_region 3 with (go_at_call 76;refine (HL.out _).mono ?_;rintro e w1 ⟨L,cL,rfl,hL,hx1⟩)
 have hw1x:=hx0.trans hx1
 replace b0:=b0.ext hx1
 replace bz:=bz.ext hx1
 clear c0
 have b01:=b0
 have bz1:=bz
 have c0:=b0.cell
 go_upto_region 99 with fail
 refine (HR.out 1 _ hw1x).mono ?_
 rintro e w2 ⟨rfl,hx2⟩
 replace b0:=b0.ext hx2
 replace bz:=bz.ext hx2
 clear c0
 go_upto_region 5 with fail
 have hx3:=((Ext.refl w2).alloc (.cells #[.int .i64 1] 3)).alloc (.cells #[.int .i64 s.al,.slice none 0 0,.slice none 0 0] 30)
 obtain⟨-,bG⟩:=zv (Ext.refl ((w2.alloc (.cells #[.int .i64 1] 3)).alloc (.cells #[.int .i64 s.al,.slice none 0 0,.slice none 0 0] 30)))
 have hsz2:=hx2.size
 have hrow0:=zm (World.ownsRow_lit (base:=w1.heap.size) (e:=3) (size:=1) w2 #[.int .i64 1] 1 hsz2 (by unfold maxLen;omega) rfl) ((Ext.refl _).alloc (.cells #[.int .i64 s.al,.slice none 0 0,.slice none 0 0] 30))
 have hsub:Sub w1 ((w2.alloc (.cells #[.int .i64 1] 3)).alloc (.cells #[.int .i64 s.al,.slice none 0 0,.slice none 0 0] 30)) (w2.heap.size+1) s.al (.slice none 0 0) [] [] (.slice none 0 0) [] (.slice (some ⟨w2.heap.size,0,none⟩) 1 1) [1]:=
  ⟨⟨bG,World.ownsRow_nil _ _ _ _,zq.nil _ _,World.ownsRow_nil _ _ _ _,hx2.trans hx3,by omega⟩,hrow0,fun r hr=>by cases hr⟩
 have hLs:=hx2.trans hx3
 replace b0:=b0.ext hx3
 replace bz:=bz.ext hx3
 clear bG hrow0 hx3 hx2
 generalize (w2.alloc (.cells #[.int .i64 1] 3)).alloc (.cells #[.int .i64 s.al,.slice none 0 0,.slice none 0 0] 30)=w3 at *
 generalize w2.heap.size+1=G at *
 generalize hS0:w2.heap.size=S0 at *
 generalize hN:(letters a 6).length=N at *
 replace HN:=HN.out
 have hw1s:=hw1x.size
 have hGs:=hsub.gro.hG
 have hw1s2:w.heap.size+2≤w1.heap.size:=by have:=hx1.size;omega
 clear b0 bz hsz0 hsz2 hLs
 go_wp2_with fail
 go_loopw [8,10,11,12,13] (fun sS iv _ _ _ wr=>∃ (i:Nat) (v:Value) (rows:List Value) (ls:List (List Int)) (vA:Value) (acc:List Bool) (S:Option Addr) (cS:Nat) (sets:List Nat),i≤sets.length∧sets.length≤12∧iv=.int .i64 (i:Nat)∧sS=.slice S sets.length cS∧Sub w1 wr G s.al v rows ls vA acc (.slice S sets.length cS) sets∧ls.length=i∧acc.length=i∧Hid (∀ l∈ls,l.length≤12)∧Hid (∀ x∈sets,Sm x)) (fun _ iv _ _ _ _=>12 - (intOf iv).toNat)
 case atStart=>exact⟨0,_,[],[],_,[],_,1,[1],Nat.zero_le _,by decide,rfl,rfl,hsub,rfl,rfl,za (fun l hl=>by cases hl),za (fun x hx=>by rw [List.mem_singleton.1 hx];unfold Sm;omega)⟩
 case round =>
  clear hsub
  obtain⟨i,v,rows,ls,vA,acc,S,cS,sets,hi,hm,rfl,rfl,hsub,hll,hla,hlk,hsms⟩:=hrel
  have hex:=hsub.gro.ext
  by_cases hlt:i<sets.length
  ·have hlt':(i:Int)<(sets.length:Int):=by omega
   have hllH:=za hll
   have hlaH:=za hla
   have hlb:ls.length≤12:=by omega
   have hlb2:acc.length≤12:=by omega
   clear hll hla
   obtain⟨gL0,hgL⟩:∃ x,sets[i]?=some x:=⟨_,List.getElem?_eq_getElem hlt⟩
   have hxs:=za hgL
   have hsmx:=za (hsms.out gL0 (List.mem_of_getElem? hgL))
   clear hgL
   go_upto_region 9 with fail
   have hsr:=hsub.row
   have hwrs:wr.heap.size≤(wr.alloc (.cells #[] 3)).heap.size:=by simp
   clear hsub
   generalize wr.alloc (.cells #[] 3)=wx at *
   generalize wr.heap.size=Kn at *
   go_wp2_with fail
   go_loopw [8,11,12,13] (fun sS sR kv _ wx=>∃ (k:Nat) (S:Option Addr) (cS:Nat) (sets':List Nat) (R:Option Addr) (cR:Nat) (l:List Int),k≤N∧kv=.int .i64 (k:Nat)∧sS=.slice S sets'.length cS∧sR=.slice R l.length cR∧SubR w1 wx G s.al v rows ls vA acc (.slice S sets'.length cS) sets' Kn (.slice R l.length cR) l∧Kn≤wx.heap.size∧l.length=k∧sets.length≤sets'.length∧sets'.length≤12+k∧Hid (sets'[i]?=some gL0)∧Hid (∀ x∈sets',Sm x)) (fun _ _ kv _ _=>N - (intOf kv).toNat)
   case atStart=>exact⟨0,_,_,sets,_,0,[],Nat.zero_le _,rfl,rfl,rfl,hsr,hwrs,rfl,Nat.le_refl _,by omega,hxs,hsms⟩
   case round =>
    clear hsr hwrs hex
    obtain⟨k,S,cS,sets',R,cR,l,hk,rfl,rfl,rfl,hsr,hKW,hlk',hm1,hm2,hxs',hsms'⟩:=hrel
    subst hlk'
    have hex:=hsr.sub.gro.ext
    by_cases hkN:l.length<N
    ·have hkN':(l.length:Int)<(N:Int):=by omega
     obtain⟨lt,hlt2⟩:∃ x,(letters a 6)[l.length]?=some x:=⟨_,List.getElem?_eq_getElem (by omega)⟩
     obtain⟨gL,rfl,-,hcL⟩:=own_nat hL hlt2
     obtain⟨gS,rfl,-,hcS⟩:=own_nat hsr.sub.sets hxs'.out
     have cL:∀ W,Ext wr W→W.cell? ⟨gL,l.length,none⟩=some (.int .i64 (lt:Nat)):=fun W hW=>(hex.trans hW).cell_some hcL
     have cS1:∀ W,Ext wr W→W.cell? ⟨gS,i,none⟩=some (.int .i64 (gL0:Nat)):=fun W hW=>hW.cell_some hcS
     have cB:∀ W,Ext wr W→∀ q,W.cell? ⟨w.heap.size,q,none⟩=#[Value.int .i64 s.al,.int .i64 s.st,.slice A n c][q]?:=fun W hW=>(b01.ext (hex.trans hW)).cell
     have hww:=Ext.refl wr
     have hik:(i:Int)<(sets'.length:Int):=by omega
     have hyy:=za (Hsm.out gL0 (lt:Nat))
     clear hlt2 hcL hcS
     go_wp2_with fail
     refine uR (fun X=>Ext wr X) [12] (zE.of [0,1,2,3,4,5,6,7,8,9,11,10,12,13]) ?_
     refine uQ ?_
     have hxd:=hww.drew
     refine ze fun K hK=>?_;go_simp
     refine (HS.out gL0 (lt:Nat) _ (hw1x.trans (hex.trans hxd)) hsmx.out).mono ?_
     rintro e w5 ⟨rfl,hx5⟩
     have hxd5:=hxd.trans hx5
     refine hK.out _ _ hxd5 ?_
     refine pT ?_
     refine uQ ?_
     refine zb fun K hK=>?_
     go_simp
     refine (HR.out _ _ (hw1x.trans (hex.trans hxd5))).mono ?_
     rintro e w6 ⟨rfl,hx6⟩
     have hxd6:=hxd5.trans hx6
     refine hK.out _ _ ?_
     refine pT ?_
     refine uQ ?_
     refine zh ?_
     obtain⟨y,hyd⟩:∃ y,zaE s.edges gL0 (lt:Nat)=y:=⟨_,rfl⟩
     rw [hyd] at hyy ⊢
     clear hyd
     replace hsr:=hsr.ext hxd6
     have hKW6:Kn≤w6.heap.size:=Nat.le_trans hKW hxd6.size
     clear hxd6 hxd5 hx6 hx5 hxd hww cL cS1 cB hKW
     have hlsr:=Lst.own_nats hsr.sub.sets
     by_cases hy:y∈sets'
     ·have hyd:decide (y∈sets')=true:=decide_eq_true hy
      have hmem:=za hy
      clear hy
      have hset6:=hsr.sub.sets
      go_upto_region 15 with (go_at_call 101;refine (spec_l4In hlsr rfl).mono ?_;rw [hyd];rintro e w7 ⟨rfl,rfl⟩)
      have hrow7:=zT hsr.row hsr.hK
      have hex7:=hsr.sub.gro.ext
      have hl6:l.length≤6:=by omega
      go_upto_region 99 with fail
      refine (zcK hset6 hmem.out).mono ?_
      rintro e w' ⟨j,rfl,-,rfl⟩
      go_wp2_with (at_builtin;refine zI w1 w6 rfl _ _ _ rfl 3 _ 1 8 Tryd.underlying62 zS rfl (by decide) (.slice R l.length cR) _ _ _ _ rfl rfl hex7 hrow7 rfl (zaC _) (by unfold maxLen;omega) (by omega) ?_;intro v8 w8 hext8 hown8 hg8 hat8)
      obtain⟨R8,cR8,rfl⟩:=zl hown8
      have fin:=hsr.pushInt hext8 hown8 hg8 hat8 hKW6
      have hl8:(l++[(j:Int)]).length=l.length+1:=by simp
      go_roundw
      case rel=>exact⟨l.length+1,_,_,sets',R8,cR8,l++[(j:Int)],by omega,by go_num,rfl,by rw [hl8],by rw [hl8];exact fin,Nat.le_trans hKW6 hg8.size,hl8,hm1,by omega,hxs',hsms'⟩
      case measure=>simp [intOf];omega
     ·have hyd:decide (y∈sets')=false:=decide_eq_false hy
      clear hy
      have hset6:=hsr.sub.sets
      have hex6:=hsr.sub.gro.ext
      go_upto_region 15 with (first|(go_at_call 101;refine (spec_l4In hlsr rfl).mono ?_;rw [hyd];rintro e w7 ⟨rfl,rfl⟩)|(at_builtin;refine zI w1 w6 rfl _ _ _ rfl 3 _ 1 8 Tryd.underlying62 zS rfl (by decide) (.slice (some ⟨gS,0,none⟩) sets'.length cS) _ _ _ _ rfl rfl hex6 hset6 rfl (zaC _) (by unfold maxLen;omega) (by omega) ?_;intro v7 w7 hext7 hown7 hg7 hat7))
      obtain⟨S7,cS7,rfl⟩:=zl hown7
      replace hsr:=hsr.pushSet hext7 hown7 hg7 hat7
      have hKW7:=Nat.le_trans hKW6 hg7.size
      have hls7:(sets'++[y]).length=sets'.length+1:=by simp
      have hset7:=hsr.sub.sets
      rw [hls7] at hset7
      have hmem:=za (show y∈sets'++[y] by simp)
      clear hyd hset6 hex6 hlsr hown7 hg7 hat7 hext7
      have hrow7:=zT hsr.row hsr.hK
      have hex7:=hsr.sub.gro.ext
      have hl6:l.length≤6:=by omega
      go_upto_region 99 with fail
      refine (zcK hset7 hmem.out).mono ?_
      rintro e w' ⟨j,rfl,-,rfl⟩
      go_wp2_with (at_builtin;refine zI w1 w7 rfl _ _ _ rfl 3 _ 1 8 Tryd.underlying62 zS rfl (by decide) (.slice R l.length cR) _ _ _ _ rfl rfl hex7 hrow7 rfl (zaC _) (by unfold maxLen;omega) (by omega) ?_;intro v8 w8 hext8 hown8 hg8 hat8)
      obtain⟨R8,cR8,rfl⟩:=zl hown8
      have fin:=hsr.pushInt hext8 hown8 hg8 hat8 hKW7
      have hl8:(l++[(j:Int)]).length=l.length+1:=by simp
      go_roundw
      case rel=>exact⟨l.length+1,_,_,sets'++[y],R8,cR8,l++[(j:Int)],by omega,by go_num,by rw [hls7],by rw [hl8],by rw [hl8,hls7];exact fin,Nat.le_trans hKW7 hg8.size,hl8,by omega,by omega,za (by rw [List.getElem?_append_left (by omega)];exact hxs'.out),za (fun x hx=>by
       rcases List.mem_append.1 hx with h1|h1
       ·exact hsms'.out x h1
       ·rw [List.mem_singleton.1 h1];exact hyy.out)⟩
      case measure=>simp [intOf];omega
    ·obtain rfl:N=l.length:=by omega
     by_cases hbig:12<sets'.length
     ·have hbig':(sets'.length:Int)>12:=by omega
      have bz2:=bz1.ext hex
      have cz:=bz2.cell
      have fz:=bz2.frozen
      have hno:=za (ret_noS (Z:=w.heap.size+1) (hw1x.trans hex) (by omega))
      go_wp2_with fail
      have hfb:=zas bz2 rfl (.int .i64 0) (.slice none 0 0) (.slice none 0 0)
      have cf:=hfb.cell
      exact bodyPost_ret (v:=.tuple #[.agg #[.int .i64 0,.slice none 0 0,.slice none 0 0],.bool false]) (by simp [results,Tryd.results62,go_sem,cf]) rfl hno.out
     ·have hbig':¬ ((sets'.length:Int)>12):=by omega
      have hs4:=hsr.sub.gro.ext.size
      have cG0:=hsr.sub.gro.blk.cell
      have hnx:=hsr.sub.gro.nx
      have hlN:l.length≤6:=HN
      go_upto_region 19 with (at_builtin;refine zJ w1 wr rfl _ _ _ rfl 62 _ 1 24 Tryd.underlying22 zbb rfl (by decide) v ls.length rows _ _ rfl rfl hs4 hnx rfl (zaF _ _ _) (by unfold maxLen;omega) (by omega) ?_;intro g5 cap5 w6 hown6 hg6 hat6 hlt6;obtain⟨q1,q2,q3⟩:=hsr.pushRow hown6 hg6 hat6;have q1':=q1.out)
      have hln7:=za (show (ls++[l]).length=i+1 by have:=hllH.out;simp;omega)
      have hlk7:=za (show ∀ l'∈ls++[l],l'.length≤12 from fun l' hl'=>by
       rcases List.mem_append.1 hl' with h1|h1
       ·exact hlk.out l' h1
       ·rw [List.mem_singleton.1 h1];omega)
      clear q1 q1' q2 hown6 hg6 hat6 hlt6 hsr cG0 hnx hex
      generalize ls++[l]=ls7 at *
      generalize rows++[.slice R l.length cR]=rows7 at *
      generalize w6.setCell ⟨G,1,none⟩ (.slice (some ⟨g5,0,none⟩) (ls.length+1) cap5)=w7 at *
      generalize Value.slice (some ⟨g5,0,none⟩) (ls.length+1) cap5=v7 at *
      obtain⟨gS,rfl,-,hcS⟩:=own_nat q3.sets hxs'.out
      have cG:∀ W,Ext w7 W→∀ q,W.cell? ⟨G,q,none⟩=#[Value.int .i64 s.al,v7,vA][q]?:=fun W hW=>(q3.gro.blk.ext hW).cell
      have cS1:∀ W,Ext w7 W→W.cell? ⟨gS,i,none⟩=some (.int .i64 (gL0:Nat)):=fun W hW=>hW.cell_some hcS
      have hik:(i:Int)<(sets'.length:Int):=by omega
      obtain⟨bb,hbb⟩:∃ bb,((gL0:Int) != 0)=bb:=⟨_,rfl⟩
      have hww:=Ext.refl w7
      clear hcS
      refine uR (fun X=>Ext w7 X) [8,10] (zE.of [0,1,2,3,4,5,6,7,8,9,10]) ?_
      refine uQ ?_
      have hxd:=hww.drew
      refine ze fun K hK=>?_;go_simp
      refine hK.out _ _ (hxd.alloc _) ?_
      refine pT ?_
      refine zb fun K hK=>?_
      have q3d:=q3.ext hxd
      refine zab w1 w7.drew _ _ _ rfl 4 _ 1 1 Tryd.underlying23 zal rfl (by decide) vA acc.length (zL acc) _ _ rfl rfl q3d.gro.ext.size q3d.gro.acc rfl (by simp [Value.oneCell']) (by unfold maxLen;omega) (by omega) ?_
      intro g8 cap8 w8 hown8 hg8 hat8 hlt8
      refine hK.out _ _ ?_
      refine pT ?_
      refine uQ ?_
      obtain⟨p1,p2,p3⟩:=q3d.pushAcc (x:=bb) (W':=w8) hown8 hg8 hat8
      have p1':=p1.out
      refine zb fun K hK=>?_
      go_simp
      refine hK.out _ _ ?_
      refine zh ?_
      go_wp2_with fail
      go_roundw
      case rel=>exact⟨i+1,_,_,ls7,_,acc++[bb],_,_,sets',by omega,by omega,by go_num,rfl,p3,hln7.out,by have:=hlaH.out;simp;omega,hlk7,hsms'⟩
      case measure=>simp [intOf];omega
  ·obtain rfl:i=sets.length:=by omega
   obtain⟨A5,c5,rfl⟩:=zl hsub.gro.nx
   obtain⟨B5,d5,rfl⟩:=zl hsub.gro.acc
   have bz2:=bz1.ext hex
   have cz:=bz2.cell
   have fz:=bz2.frozen
   have cG:=hsub.gro.blk.cell
   have hF:=zak wr (w.heap.size+1) (.int .i64 s.al) (.slice A5 ls.length c5) (.slice B5 acc.length d5)
   obtain⟨f1,-,-⟩:=hsub.gro.fin hw1x (hF.mono (fun k _ hk=>by have hk':k=w.heap.size+1:=hk;omega))
   have f2:=zas bz2 rfl (.int .i64 s.al) (.slice A5 ls.length c5) (.slice B5 acc.length d5)
   have f3:=(hw1x.trans hex).frm hF (fun k hk e=>by omega)
   have hbd:=za (show BdA 12 ⟨s.al,ls,acc⟩ from ⟨by show ls.length≤12;omega,by show acc.length≤12;omega,hlk.out⟩)
   rw [hll,hla] at f1 f2 f3
   go_wp2_with fail
   have cf:=f2.cell
   exact bodyPost_ret (v:=.tuple #[.agg #[.int .i64 s.al,.slice A5 sets.length c5,.slice B5 sets.length d5],.bool true]) (by simp [results,Tryd.results62,go_sem,cf]) rfl ⟨⟨s.al,ls,acc⟩,A5,_,c5,B5,_,d5,true,rfl,f1,hbd,f3⟩
theorem yV05a3 {P:Prop}(h:P:=by
 have s1':=s1.out
 rw [hla] at s3
 refine tQ ?_
 refine zi fun K hK=>?_
 go_simp
 refine hK.out _ _ ?_
 refine zr ?_
 go_wp2_with fail
 go_roundw
 case rel=>exact⟨i+1,_,_,_,_,_,by omega,by go_num,s3.more (by omega),hll7,by simp [hla],hlk7⟩
 case measure=>simp [intOf];omega
 ):P:=h
theorem spec_l3Big {R M:Nat} {w:World}(h:Rd w R M)(hM:M≤900000000) :
  Calls Tryd.prog 61 #[.pointer (some ⟨R,0,none⟩)] w (zcb R (M+100) (BdA 12) w):=by
 have hRl:=h.lt
 have hxz:=(Ext.refl w).alloc (.cells #[.int .i64 0,.slice none 0 0,.slice none 0 0] 30)
 have bz:=Blk.new w 30 #[.int .i64 0,.slice none 0 0,.slice none 0 0]
 have hxG:=(Ext.refl (w.alloc (.cells #[.int .i64 0,.slice none 0 0,.slice none 0 0] 30))).alloc (.cells #[.int .i64 3,.slice none 0 0,.slice none 0 0] 30)
 have bG:=Blk.new (w.alloc (.cells #[.int .i64 0,.slice none 0 0,.slice none 0 0] 30)) 30 #[.int .i64 3,.slice none 0 0,.slice none 0 0]
 have hz1:=bz.lt
 have hsz:(w.alloc (.cells #[.int .i64 0,.slice none 0 0,.slice none 0 0] 30)).heap.size=w.heap.size+1:=by simp
 rw [hsz] at bG
 go_enter Tryd.func61,Tryd.ntmps61
 go_upto_region 2 with fail
 generalize (w.alloc (.cells #[.int .i64 0,.slice none 0 0,.slice none 0 0] 30)).alloc (.cells #[.int .i64 3,.slice none 0 0,.slice none 0 0] 30)=w2 at *
 generalize w.alloc (.cells #[.int .i64 0,.slice none 0 0,.slice none 0 0] 30)=w1 at *
 have zeq:zax w1 w2 R (w.heap.size+1) M 3 (.slice none 0 0) [] [] (.slice none 0 0) []:=⟨bG,World.ownsRow_nil _ _ _ _,zq.nil _ _,World.ownsRow_nil _ _ _ _,h.ext (hxz.trans hxG),hxG.dr,by omega,by omega⟩
 clear bG hxG
 go_wp2_with fail
 go_loopw [4] (fun iv wr=>∃ (i:Nat) (v:Value) (rows:List Value) (ls:List (List Int)) (vA:Value) (acc:List Bool),i≤12∧iv=.int .i64 (i:Nat)∧zax w1 wr R (w.heap.size+1) (M+i*4) 3 v rows ls vA acc∧ls.length=i∧acc.length=i∧Hid (∀ l∈ls,l.length≤12)) (fun iv _=>12 - (intOf iv).toNat)
 case atStart=>exact⟨0,_,[],[],_,[],Nat.zero_le _,rfl,zeq,rfl,rfl,za (fun l hl=>by simp at hl)⟩
 case round =>
  clear zeq
  obtain⟨i,v,rows,ls,vA,acc,hi,rfl,zeq,hll,hla,hlk⟩:=hrel
  by_cases hip:i<12
  ·have hlow:=za zeq.low
   have hK0:=za (show w1.heap.size≤wr.heap.size from zeq.dr.size)
   have hsR:=za zeq.rd.lt
   have cG:∀ W,Dr R wr W→∀ q,W.cell? ⟨w.heap.size+1,q,none⟩=#[Value.int .i64 3,v,vA][q]?:=fun W hW=>(zeq.blk.dr hW (by omega)).cell
   obtain⟨wo,hwo⟩:∃ wo,wo=wr:=⟨_,rfl⟩
   subst hwo
   go_wp2_with fail
   refine tR (fun X=>Dr R wo X) [11,13] (Ord.of [0,1,2,3,4,5,6,7,8,9,10,11,12,13]) ?_
   refine tQ ?_
   refine zc fun K hK=>?_;go_simp
   refine hK.out _ _ ((Dr.refl R wo).drew.alloc _) ?_
   refine pT ?_
   refine zc fun K hK=>?_;go_simp
   change Calls Tryd.prog _ _ (wo.drew.alloc _) _
   refine (zae (w:=wo.drew) [(i:Int),0,11] 3 #[.int .i64 (i:Int),.int .i64 0,.int .i64 11] rfl rfl (by omega) (by omega) (zeq.rd.ext (Ext.refl _).drew) (by omega)).mono ?_
   rintro e w5 ⟨u,hu,rfl,hr5,hd5⟩
   have hd:Dr R wo w5:=((Dr.refl R wo).drew.alloc _).trans hd5
   refine hK.out _ _ hd ?_
   refine pT ?_
   refine zc fun K hK=>?_;go_simp
   refine hK.out _ _ (hd.alloc _) ?_
   refine pT ?_
   refine zc fun K hK=>?_;go_simp
   refine hK.out _ _ ((hd.alloc _).alloc _) ?_
   refine pT ?_
   refine zi fun K hK=>?_
   obtain⟨x1,hx1⟩:∃ x1:Int,(IntKind.i64.wrap ((i:Int)+1)).tmod 12=x1:=⟨_,rfl⟩
   rw [hx1]
   clear hx1
   have hrow:=World.ownsRow_lit (base:=wo.heap.size) (e:=3) (size:=1) w5 #[.int .i64 x1,.int .i64 u] 2 hd.size (by unfold maxLen;omega) rfl
   have hacc6:=(zeq.drawn hd hr5).ext ((Ext.refl w5).alloc (.cells #[.int .i64 x1,.int .i64 u] 3))
   have hd6:=hd.alloc (.cells #[.int .i64 x1,.int .i64 u] 3)
   have hsz6:=hacc6.dr.size
   have hw5s:=za (show w5.heap.size<(w5.alloc (.cells #[.int .i64 x1,.int .i64 u] 3)).heap.size by simp)
   have hw5e:=za (show w5.heap.size+1=(w5.alloc (.cells #[.int .i64 x1,.int .i64 u] 3)).heap.size by simp)
   rw [hw5e.out]
   generalize w5.alloc (.cells #[.int .i64 x1,.int .i64 u] 3)=w6 at *
   refine zab w1 w6 _ _ _ rfl 62 _ 1 24 Tryd.underlying22 zbb rfl (by decide) v ls.length rows _ _ rfl rfl hsz6 hacc6.nx rfl (zaF _ _ _) (by unfold maxLen;omega) (by omega) ?_
   intro g9 cap9 w9 hown9 hg9 hat9 hlt9
   refine hK.out _ _ ?_
   refine pT ?_
   obtain⟨p1,p2,p3⟩:=hacc6.pushRow (l:=[x1,u]) hlow.out hK0.out hrow hown9 hg9 hat9
   have p1':=p1.out
   refine tQ ?_
   refine zi fun K hK=>?_
   go_simp
   refine hK.out _ _ ?_
   refine zr ?_
   rw [hll] at p3
   have hlk7:=za (show ∀ l'∈ls++[[x1,u]],l'.length≤12 from fun l' hl'=>by
    rcases List.mem_append.1 hl' with h1|h1
    ·exact hlk.out l' h1
    ·rw [List.mem_singleton.1 h1];simp)
   have hll7:(ls++[[x1,u]]).length=i+1:=by simp [hll]
   clear p1 p1' p2 hown9 hg9 hat9 hlt9 zeq hacc6 hrow hll cG
   generalize ls++[[x1,u]]=ls7 at *
   generalize rows++[.slice (some ⟨w5.heap.size,0,none⟩) 2 2]=rows7 at *
   generalize w9.setCell ⟨w.heap.size+1,1,none⟩ (.slice (some ⟨g9,0,none⟩) (i+1) cap9)=wA at *
   generalize Value.slice (some ⟨g9,0,none⟩) (i+1) cap9=v7 at *
   have cG:∀ W,Dr R wA W→∀ q,W.cell? ⟨w.heap.size+1,q,none⟩=#[Value.int .i64 3,v7,vA][q]?:=fun W hW=>(p3.blk.dr hW (by omega)).cell
   by_cases hi0:i=0
   ·have hi0':((i:Int)==0)=true:=by simp;omega
    have hwd:=(Dr.refl R wA).drew
    clear hi0
    go_wp2_with fail
    refine tR (fun X=>Dr R wA X) [10,12] (Ord.of [0,1,2,3,4,5,6,7,8,9,10,11,12]) ?_
    refine tQ ?_
    refine zc fun K hK=>?_;go_simp
    refine hK.out _ _ (hwd.alloc _) ?_
    refine pT ?_
    refine zi fun K hK=>?_
    have hacc9:=p3.ext (Ext.refl wA).drew
    refine zab w1 wA.drew _ _ _ rfl 4 _ 1 1 Tryd.underlying23 zal rfl (by decide) vA acc.length (zL acc) _ _ rfl rfl hacc9.dr.size hacc9.acc rfl (by simp [Value.oneCell']) (by unfold maxLen;omega) (by omega) ?_
    intro g5 cap5 w12 zew hg5 hat5 hlt5
    refine hK.out _ _ ?_
    refine pT ?_
    obtain⟨s1,s2,s3⟩:=hacc9.pushAcc (x:=true) (W':=w12) zew hg5 hat5
    exact yV05a3
   ·have hi0':((i:Int)==0)=false:=by simp;omega
    have hwd:=(Dr.refl R wA).drew
    clear hi0
    go_wp2_with fail
    refine tR (fun X=>Dr R wA X) [10,12] (Ord.of [0,1,2,3,4,5,6,7,8,9,10,11,12]) ?_
    refine tQ ?_
    refine zc fun K hK=>?_;go_simp
    refine (zg (n:=5) (p3.rd.ext ((Ext.refl _).drew)) (by omega)).mono ?_
    rintro e w8 ⟨z,rfl,-,-,hr8,hd8⟩
    have hd78:Dr R wA w8:=((Dr.refl R wA).drew).trans hd8
    have hacc9:=p3.drawn hd78 hr8
    refine hK.out _ _ hd78 ?_
    refine pT ?_
    refine tQ ?_
    refine zc fun K hK=>?_;go_simp
    refine hK.out _ _ (hd78.alloc _) ?_
    refine pT ?_
    refine zi fun K hK=>?_
    refine zab w1 w8 _ _ _ rfl 4 _ 1 1 Tryd.underlying23 zal rfl (by decide) vA acc.length (zL acc) _ _ rfl rfl hacc9.dr.size hacc9.acc rfl (by simp [Value.oneCell']) (by unfold maxLen;omega) (by omega) ?_
    intro g5 cap5 w12 zew hg5 hat5 hlt5
    refine hK.out _ _ ?_
    refine pT ?_
    obtain⟨s1,s2,s3⟩:=hacc9.pushAcc (x:=(z:Int)==0) (W':=w12) zew hg5 hat5
    exact yV05a3
  ·obtain rfl:i=12:=by omega
   obtain⟨A5,c5,rfl⟩:=zl zeq.nx
   obtain⟨B5,d5,rfl⟩:=zl zeq.acc
   obtain⟨f1,f2⟩:=zeq.fin (N:=M+100) (sh:=BdA 12) hxz bz rfl hRl (Nat.le_refl _) hz1 (by omega) ⟨Nat.le_of_eq hll,Nat.le_of_eq hla,hlk.out⟩
   rw [hll,hla] at f1 f2
   have cG:=zeq.blk.cell
   have bz5:=bz.dr zeq.dr (by omega)
   have cZ:=bz5.cell
   have fZ:=bz5.frozen
   go_wp2_with fail
   have cf:=f2.cell
   exact bodyPost_ret (v:=.agg #[.int .i64 3,.slice A5 12 c5,.slice B5 12 d5]) (by simp [results,Tryd.results61,go_sem,cf]) rfl f1.out
theorem bits_all (y:Nat)(hy:y<64):bits .and .i64 (-1) (y:Int)=(y:Int):=
 (show ∀ y:Fin 64,bits .and .i64 (-1) ((y.val:Nat):Int)=((y.val:Nat):Int) by decide +kernel) ⟨y,hy⟩
theorem yV05a2 {P:Prop}(h:P:=by
 obtain⟨f1,f2⟩:=zdV (N:=M+600) (sh:=zct) hxz zep hsh.out hr6 hd6 bz rfl hRl (Nat.le_refl _) (Nat.le_refl _)
 have bz5:=bz.dr hd6 (by omega)
 have cZ:=bz5.cell
 have fZ:=bz5.frozen
 go_wp2_with fail
 have cf:=f2.cell
 exact bodyPost_ret (v:=.agg #[.int .i64 b.al,.slice A n c,.slice A' n' c']) (by simp [results,Tryd.results57,go_sem,cf]) rfl f1.out
 ):P:=h
theorem zcQ {R M:Nat} {zz:Int} {w:World}(h:Rd w R M)(hM:M≤700000000)(ha:(∃ a:Nat,zz=(a:Int)∧a<64)∨zz = -1) :
  Calls Tryd.prog 57 #[.pointer (some ⟨R,0,none⟩),.int .i64 zz] w (zcb R (M+600) zct w):=by
 have hRl:=h.lt
 go_enter Tryd.func57,Tryd.ntmps57
 have hxz:=(Ext.refl w).alloc (.cells #[.int .i64 0,.slice none 0 0,.slice none 0 0] 30)
 have bz:=Blk.new w 30 #[.int .i64 0,.slice none 0 0,.slice none 0 0]
 have hsz:(w.alloc (.cells #[.int .i64 0,.slice none 0 0,.slice none 0 0] 30)).heap.size=w.heap.size+1:=by simp
 go_wp2_with fail
 rw [← hsz]
 generalize w.alloc (.cells #[.int .i64 0,.slice none 0 0,.slice none 0 0] 30)=w1 at *
 refine (zae [63,63,5,3,6] 5 #[.int .i64 63,.int .i64 63,.int .i64 5,.int .i64 3,.int .i64 6] rfl rfl (by omega) (by omega) (h.ext hxz) (by omega)).mono ?_
 rintro e w2 ⟨x,hx,rfl,hr2,hd2⟩
 obtain⟨y,hy,rfl⟩:∃ y:Nat,y<64∧x=(y:Int):=⟨x.toNat,by simp at hx;omega,by simp at hx;omega⟩
 clear hx
 replace hd2:=((Dr.refl R w1).alloc _).trans hd2
 obtain⟨d,hand,hsm⟩:∃ d:Nat,bits .and .i64 zz (y:Int)=(d:Int)∧d<64:=by
  rcases ha with ⟨a,rfl,ha⟩|rfl
  ·exact⟨a&&&y,zbj (by unfold Sm;omega) (by unfold Sm;omega),Nat.lt_of_le_of_lt Nat.and_le_left ha⟩
  ·exact⟨y,bits_all y hy,hy⟩
 go_upto_region 2 with fail
 clear hand
 go_wp2_with fail
 refine (zg hr2 (by omega)).mono ?_
 rintro e w3 ⟨z,rfl,-,-,hr3,hd3⟩
 replace hd3:=hd2.trans hd3
 clear hd2 hr2
 go_upto_if 13 with fail
 go_cut [5] (fun s5 wx=>∃ d:Nat,d<64∧s5=.int .i64 (d:Nat)∧Rd wx R (M+10)∧Dr R w1 wx)
 case first =>
  by_cases hz:z=0
  ·subst hz
   go_wp2_with fail
   refine (spec_l1Some hr3 (by omega)).mono ?_
   rintro e w4 ⟨x,hx,rfl,hr4,hd4⟩
   go_wp2_with fail
   go_meet
   exact⟨x,hx,rfl,hr4.more (by omega),hd3.trans hd4⟩
  ·have hz':((z:Int)==0)=false:=by simp;omega
   go_wp2_with fail
   go_meet
   exact⟨d,hsm,rfl,hr3.more (by omega),hd3⟩
 case rest =>
  clear hr3 hd3 hsm
  obtain⟨d,hd,rfl,hr3,hd3⟩:=hcut
  go_wp2_with fail
  refine (zg hr3 (by omega)).mono ?_
  rintro e w4 ⟨y,rfl,-,-,hr4,hd4⟩
  replace hd4:=hd3.trans hd4
  by_cases hy:0<y
  ·have hy':((y:Int)>0):=by omega
   go_wp2_with fail
   refine (zae [3,2,4,1] 4 #[.int .i64 3,.int .i64 2,.int .i64 4,.int .i64 1] rfl rfl (by omega) (by omega) hr4 (by omega)).mono ?_
   rintro e w5 ⟨x,hx,rfl,hr5,hd5⟩
   obtain⟨p,hp1,hp2,rfl⟩:∃ y:Nat,1≤y∧y≤4∧x=(y:Int):=⟨x.toNat,by simp at hx;omega,by simp at hx;omega,by simp at hx;omega⟩
   clear hx
   have hd15:=(hd4.alloc _).trans hd5
   go_wp2_with fail
   refine (zdq hr5 (by omega) hd hp1 (by omega)).mono ?_
   intro e w6 hret
   obtain⟨b,A,n,c,A',n',c',rfl,zep,hsh,hr6,hd6⟩:=hret.mono (N:=M+600) (sh':=zct) hd15 (by omega) (fun b hb=>⟨d,p,hd,hp1,by omega,hb⟩)
   exact yV05a2
  ·have hy':¬ ((y:Int)>0):=by omega
   go_wp2_with fail
   refine (spec_l3Over hr4 (by omega) hd).mono ?_
   intro e w6 hret
   obtain⟨b,A,n,c,A',n',c',rfl,zep,hsh,hr6,hd6⟩:=hret.mono (N:=M+600) (sh':=zct) hd4 (by omega) (fun b hb=>hb)
   exact yV05a2
theorem zdr {R M a:Nat} {w:World}(h:Rd w R M)(hM:M≤700000000)(ha:a<64) :
  Calls Tryd.prog 57 #[.pointer (some ⟨R,0,none⟩),.int .i64 a] w (zcb R (M+600) zct w):=zcQ h hM (.inl ⟨a,rfl,ha⟩)
theorem zdF {R M n c L a p:Nat} {A:Option Addr} {es:List Edg} {w:World}(h:Rd w R M)(hM:M≤800000000)(hs:zK w R A n ⟨a,p,es⟩)(ha:a<64)(hp1:1≤p)(hp:p≤16)(hfew:Few p es)(hn:n≤L)(hnc:n≤c)(hL:L≤100000) :
  Calls Tryd.prog 54 #[.pointer (some ⟨R,0,none⟩),.agg #[.int .i64 a,.int .i64 p,.slice A n c]] w (RetG R (M+16*L+10) (L+2000) w):=by
 have hRl:=h.lt
 have hr0:=hs.at_.2
 have hen:=za hs.1
 have Hfew:=za hfew
 have hsm:Sm a:=by unfold Sm;omega
 have hx1:Ext w ((w.alloc (.cells #[.int .i64 a,.int .i64 p,.slice A n c] 39)).alloc (.cells #[.int .i64 0,.int .i64 0,.slice none 0 0] 39)):=((Ext.refl _).alloc _).alloc _
 obtain⟨bS,bZ⟩:=zv (Ext.refl ((w.alloc (.cells #[.int .i64 a,.int .i64 p,.slice A n c] 39)).alloc (.cells #[.int .i64 0,.int .i64 0,.slice none 0 0] 39)))
 have hsz:((w.alloc (.cells #[.int .i64 a,.int .i64 p,.slice A n c] 39)).alloc (.cells #[.int .i64 0,.int .i64 0,.slice none 0 0] 39)).heap.size=w.heap.size+2:=by simp
 have HbS:=za bS
 have HbZ:=za bZ
 have Hx1:=za hx1
 have Hsz:=za hsz
 have hg:=za (show Good ⟨a,p,es⟩ from ⟨a,p,rfl,ha,rfl,hp1,hp,hfew⟩)
 replace hs:=za hs
 clear bS bZ hx1 hsz hfew
 by_cases hp16:p=16
 ·subst hp16
  have zes:=za (fun W (hx:Ext w W)=>(show RetG R (M+16*L+10) (L+2000) w (.returned (.agg #[.int .i64 a,.int .i64 (16:Nat),.slice A n c])) W from ⟨⟨a,(16:Nat),es⟩,A,n,c,rfl,hs.out.ext hx,hg.out,by omega,(h.ext hx).more (by omega),hx.dr⟩))
  go_enter Tryd.func54,Tryd.ntmps54
  go_wp2_with fail
  exact bodyPost_ret (v:=.agg #[.int .i64 a,.int .i64 (16:Nat),.slice A n c]) (by simp [results,Tryd.results54,go_sem]) rfl (zes.out _ (((Ext.refl _).alloc _).alloc _))
 ·have hpe:((p:Int)==16)=false:=by simp;omega
  have Hp16:=za hp16
  clear hp16
  go_enter Tryd.func54,Tryd.ntmps54
  go_wp2_with fail
  generalize (w.alloc (.cells #[.int .i64 a,.int .i64 p,.slice A n c] 39)).alloc (.cells #[.int .i64 0,.int .i64 0,.slice none 0 0] 39)=w1 at *
  have hz1:w.heap.size+2≤w1.heap.size:=by rw [Hsz.out];exact Nat.le_refl _
  refine (zg (n:=p) (h.ext Hx1.out) (by omega)).mono ?_
  rintro e w2 ⟨k,rfl,-,-,hr2,hd2⟩
  have bS2:=HbS.out.dr hd2 (by omega)
  have bZ2:=HbZ.out.dr hd2 (by omega)
  have cS2:=bS2.cell
  have hw2:=Hx1.out.dr.trans hd2
  have hz2:=hd2.size
  have hx3:=(Ext.refl w2).alloc (.cells #[.int .i64 a,.int .i64 ((p:Int)+1),.slice none 0 0] 39)
  have bG3:=Blk.new w2 39 #[.int .i64 a,.int .i64 ((p:Int)+1),.slice none 0 0]
  have hz3:(w2.alloc (.cells #[.int .i64 a,.int .i64 ((p:Int)+1),.slice none 0 0] 39)).heap.size=w2.heap.size+1:=by simp
  have zeq:Acc w _ _ R w2.heap.size (M+1) a ((p:Int)+1) (.slice none 0 0) []:=⟨bG3,World.ownsRow_nil _ _ _ _,hr2.ext hx3,hw2.ext hx3,Frm.refl _ _,hRl,(hw2.ext hx3).size,hw2.size⟩
  have bS3:=bS2.ext hx3
  have bZ3:=bZ2.ext hx3
  clear hd2 bG3 hr2 bS2
  go_wp2_with fail
  generalize w2.alloc (.cells #[.int .i64 a,.int .i64 ((p:Int)+1),.slice none 0 0] 39)=w3 at *
  go_loopw [7] (fun v wr=>∃ i:Nat,i≤p+1∧v=.int .i64 i∧∃ (u:Value) (fs:List Edg),Acc w w3 wr R w2.heap.size (M+1+i*L) a ((p:Int)+1) u fs∧fs.length≤i*L∧Hid (Few (p+1) fs)) (fun v _=>p+1 - (intOf v).toNat)
  case atStart=>exact⟨0,Nat.zero_le _,rfl,_,[],zeq.more (by omega),Nat.zero_le _,zdb _⟩
  case round =>
   clear zeq
   obtain⟨i,hi,rfl,u,fs,zeq,hlen,hfw⟩:=hrel
   have hiL:i*L≤(p+1)*L:=Nat.mul_le_mul_right _ hi
   have hpL:(p+1)*L≤16*L:=Nat.mul_le_mul_right _ (by have:=Hp16.out;omega)
   have cG:=zeq.blk.cell
   have bS4:=bS3.frm zeq.fr (by omega)
   by_cases hlt:i<p+1
   ·have cS:=bS4.cell
    have hi1:(i+1)*L≤(p+1)*L:=Nat.mul_le_mul_right _ (by omega)
    have hi2:(i+1)*L=i*L+L:=Nat.succ_mul i L
    go_upto_if 41 with fail
    go_cut [8] (fun v wx=>∃ f:Nat,v=.int .i64 f∧wr=wx)
    case first =>
     by_cases hip:i=p
     ·subst hip
      go_wp2_with fail
      go_meet
      exact⟨k,rfl,rfl⟩
     ·have hip':((i:Int)==(p:Int))=false:=by simp;omega
      go_wp2_with fail
      go_meet
      exact⟨i,rfl,rfl⟩
    case rest =>
     obtain⟨f,rfl,hwc⟩:=hcut
     subst hwc
     go_wp2_with fail
     clear cG cS bS4
     go_loopw [9] (fun v wr=>∃ j:Nat,j≤n∧v=.int .i64 j∧∃ (u:Value) (fs:List Edg),Acc w w3 wr R w2.heap.size (M+1+i*L+j) a ((p:Int)+1) u fs∧fs.length≤i*L+j∧Hid (Few (p+1) fs)) (fun v _=>n - (intOf v).toNat)
     case atStart=>exact⟨0,Nat.zero_le _,rfl,u,fs,zeq.more (by omega),by omega,hfw⟩
     case round =>
      clear zeq hlen hfw
      obtain⟨j,hj,rfl,u,fs,zeq,hlen,hfw⟩:=hrel
      have cG:=zeq.blk.cell
      have bS4:=bS3.frm zeq.fr (by omega)
      have cS:=bS4.cell
      by_cases hlj:j<n
      ·obtain⟨b0,o0,ed,rfl,hlo,hhi,he,c0,c1,c2⟩:=(hr0.dr zeq.dr (by omega)).edge hlj
       have hedf:=za (Hfew.out ed (List.mem_of_getElem? he.out))
       cases hfe:(ed.fr != (f:Int))
       ·obtain⟨ed0,rfl⟩:∃ ed0,ed0=ed:=⟨_,rfl⟩
        obtain⟨t,hte,htp⟩:∃ t:Nat,ed0.ta=t∧t<p:=⟨ed0.ta.toNat,by have:=hedf.out;omega,by have:=hedf.out;omega⟩
        obtain⟨l,hle,hl6⟩:∃ l:Nat,ed0.le=l∧l<6:=⟨ed0.le.toNat,by have:=hedf.out;omega,by have:=hedf.out;omega⟩
        rw [hte] at c2
        rw [hle] at c1
        have hb5:=Blk.new wr 116 #[.int .i64 i,.int .i64 l,.int .i64 t]
        have hx6:Ext wr (wr.alloc (.cells #[.int .i64 i,.int .i64 l,.int .i64 t] 116)):=(Ext.refl wr).alloc _
        have hRr:=zeq.rd.lt
        go_upto_region 17 with fail
        go_cut [69] (fun s wx=>∃ q:Bool,s=.bool q∧Blk wx wr.heap.size 116 #[.int .i64 i,.int .i64 l,.int .i64 t]∧Rd wx R (M+1+i*L+j+1)∧Dr R wr wx)
        case first =>
         by_cases htk:t=k
         ·subst htk
          go_wp2_with fail
          refine (zg (zeq.rd.ext hx6) (by omega)).mono ?_
          rintro e w6 ⟨y,rfl,-,-,hr6,hd6⟩
          go_wp2_with fail
          go_meet
          exact⟨_,rfl,hb5.dr hd6 (by omega),hr6,hx6.dr.trans hd6⟩
         ·have htk':((t:Int)==(k:Int))=false:=by simp;omega
          go_wp2_with fail
          go_meet
          exact⟨false,rfl,hb5,(zeq.rd.ext hx6).more (by omega),hx6.dr⟩
        case rest =>
         obtain⟨q,rfl,hb6,hr6,hd6⟩:=hcut
         clear hb5 hx6
         have hb6c:=hb6.cell
         have hb6f:=hb6.frozen
         have cS6:=(bS4.dr hd6 (by omega)).cell
         go_upto_if 69 with fail
         go_cut [] (fun wx=>∃ t':Nat,t'<p+1∧Blk wx wr.heap.size 116 #[.int .i64 i,.int .i64 l,.int .i64 t']∧Rd wx R (M+1+i*L+j+1)∧Dr R wr wx)
         case first =>
          cases q
          ·go_wp2_with fail
           go_meet
           exact⟨t,by omega,hb6,hr6,hd6⟩
          ·go_wp2_with fail
           go_meet
           exact⟨p,by omega,by simpa using hb6.set_ 2 (.int .i64 (p:Nat)),hr6.frm (Frm.setCell _ _ 2 _) (fun x h1 h2=>by omega),hd6.setNew (by dsimp only;omega) _⟩
         case rest =>
          clear hb6 hr6 hd6 hb6c hb6f cS6 hte hle htp
          obtain⟨t',ht',hb7,hr7,hd7⟩:=hcut
          replace zeq:=zeq.drawn hd7 hr7
          clear hd7 hr7 cG cS c0 c1 c2
          have cG:=zeq.blk.cell
          have cE:=hb7.cell
          go_wp2_with (at_builtin;refine zJ w3 _ rfl _ _ _ rfl 116 _ 3 24 Tryd.underlying37 zN rfl (by decide) u fs.length (zd fs) _ _ rfl rfl zeq.fr.size zeq.own rfl (by simp [Value.oneCell']) (by unfold maxLen;omega) (by omega) ?_;intro g cap w8 hown8 hg8 hat8 hlt8;obtain⟨h1,h2,h3⟩:=zeq.push (e:=⟨i,l,t'⟩) hown8 hg8 hat8;have h1':=h1.out)
          go_roundw
          case rel=>exact⟨j+1,by omega,by go_num,_,_,h3.more (by omega),by simp;omega,zaT hfw.out (by simp;omega)⟩
          case measure=>simp [intOf];omega
       ·go_wp2_with fail
        go_roundw
        case rel=>exact⟨j+1,by omega,by go_num,u,fs,(zeq.more (by omega)).ext ((Ext.refl _).alloc _),by omega,hfw⟩
        case measure=>simp [intOf];omega
      ·obtain rfl:j=n:=by omega
       go_wp2_with fail
       go_roundw
       case rel=>exact⟨i+1,by omega,by go_num,u,fs,zeq.more (by omega),by omega,hfw⟩
       case measure=>simp [intOf];omega
   ·obtain rfl:i=p+1:=by omega
    obtain⟨wx,hwx⟩:∃ wx,wx=wr:=⟨_,rfl⟩
    subst hwx
    obtain⟨B,m,d,rfl⟩:=zeq.form
    obtain⟨rfl,hsx⟩:=zeq.reads
    have bZ4:=bZ3.frm zeq.fr (by omega)
    have hx5:Ext wx (wx.alloc (.cells #[.int .i64 a,.int .i64 ((p:Int)+1),.slice none 0 0] 39)):=(Ext.refl wx).alloc _
    have cG5:=(zeq.blk.ext hx5).cell
    have hw4:=zeq.dr
    have hz34:=zeq.fr.size
    have hGr:=zeq.blk.lt
    have hRr:=zeq.rd.lt
    go_wp2_with fail
    refine (zai a hsm _).mono ?_
    rintro e w5 ⟨C,q,rfl,zew,hx5'⟩
    have hx45:=hx5.trans hx5'
    have hb2:=zaH hx5'
    have hl6:=zn a 6
    have hlm:=za (fun k (hk:k∈letters a 6)=>(zO.1 hk).1)
    have hrd5:=(Reads.of_own zew).more (lo':=wx.heap.size+1) (hi':=w5.heap.size) (by simp) (Nat.le_refl _)
    have hacc2:Acc w w5 w5 R wx.heap.size (M+16*L+10) a ((p:Int)+1) (.slice none 0 0) []:=⟨hb2,World.ownsRow_nil _ _ _ _,(zeq.rd.ext hx45).more (by omega),zeq.dr.ext hx45,Frm.refl _ _,hRl,(zeq.dr.ext hx45).size,hw4.size⟩
    have bX:=zeq.blk.ext hx45
    have hsx5:=za (hsx.ext hx45)
    have bZ5:=bZ4.ext hx45
    have hz45:=hx45.size
    clear cG5 cG bS4 zew hx5' hx5 hb2 bZ4 hsx zeq cS2 bS3 bZ3 bZ2
    generalize letters a 6=ls at *
    go_wp2_with fail
    go_loopw [13] (fun v wr=>∃ i:Nat,i≤p+1∧v=.int .i64 i∧∃ (u:Value) (gs:List Edg),Acc w w5 wr R wx.heap.size (M+16*L+10) a ((p:Int)+1) u gs∧gs.length≤i*100∧Hid (Few (p+1) gs)) (fun v _=>p+1 - (intOf v).toNat)
    case atStart=>exact⟨0,Nat.zero_le _,rfl,_,[],hacc2,Nat.zero_le _,zdb _⟩
    case round =>
     clear hacc2
     obtain⟨i,hi,rfl,u,gs,hacc2,hgl,hgf⟩:=hrel
     have bX6:=bX.frm hacc2.fr (by omega)
     have cX:=bX6.cell
     by_cases hlt:i<p+1
     ·have hlt':(i:Int)<(p:Int)+1:=by omega
      go_wp2_with fail
      go_loopw [14] (fun v wr=>∃ j:Nat,j≤ls.length∧v=.int .i64 j∧∃ (u:Value) (gs:List Edg),Acc w w5 wr R wx.heap.size (M+16*L+10) a ((p:Int)+1) u gs∧gs.length≤i*100+j*16∧Hid (Few (p+1) gs)) (fun v _=>ls.length - (intOf v).toNat)
      case atStart=>exact⟨0,Nat.zero_le _,rfl,u,gs,hacc2,by omega,hgf⟩
      case round =>
       clear hacc2 hgl hgf
       obtain⟨j,hj,rfl,u,gs,hacc2,hgl,hgf⟩:=hrel
       by_cases hlj:j<ls.length
       ·obtain⟨ad,l,rfl,hadlo,_,hl,hlc⟩:=(hacc2.old hrd5 (fun k h1 h2=>by omega)).nat hlj
        have hl6':=hlm.out l (List.mem_of_getElem? hl.out)
        have hi32:i<32:=by have:=Hp16.out;omega
        have bX7:=bX.frm hacc2.fr (by omega)
        have hsx7:zQ wr w3.heap.size wx.heap.size B fs.length ⟨a,(p:Int)+1,fs⟩:=⟨hsx5.out.1,hacc2.old hsx5.out.2 (fun k h1 h2=>by omega)⟩
        have cXX:=bX7.cells
        have cL:∀ W,Ext wr W→W.cell? (ad.add j)=some (.int .i64 (l:Nat)):=fun W hW=>hW.cell_some hlc
        have cS:∀ W,Ext wr W→Calls Tryd.prog 93 #[.agg #[.int .i64 a,.int .i64 ((p:Int)+1),.slice B fs.length d],.int .i64 ((2:Int) ^ i),.int .i64 (l:Nat)] W fun e w'=>e=.returned (.int .i64 (zaE fs (2 ^ i) l:Nat))∧Ext W w':=fun W hW=>by
         rw [show ((2:Int) ^ i)=((2 ^ i:Nat):Int) by simp]
         exact zaQ (s:=⟨a,(p:Int)+1,fs⟩) (hsx7.ext hW) hfw.out (by have:=Hp16.out;omega) (Sm.bit hi32)
        have CS:=za cS
        have hqq:=Ext.refl wr
        have hj1:(j:Int)<(ls.length:Int):=by omega
        clear cS cX
        go_upto_region 28 with fail
        go_cut [15] (fun v wx'=>∃ x:Nat,v=.int .i64 x∧Sm x∧Ext wr wx')
        case first =>
         refine sR (fun X=>Ext wr X) [0,1,3,4,5,6,2,7,8] (fun hS=>?_)
         refine sQ ?_
         refine zt fun K hK=>?_;go_simp
         (with_reducible refine (zah i hi32 _).mono ?_)
         rintro e w6 ⟨rfl,rfl⟩
         refine hK.out _ _ (by assumption) ?_
         refine pT ?_
         intro hS
         refine zt fun K hK=>?_;go_simp
         with_reducible refine (CS.out _ ?_).mono ?_
         ·assumption
         rintro e w7 ⟨rfl,hx7⟩
         have hx7':=(show Ext wr wr.drew from (Ext.refl _).drew).trans hx7
         refine hK.out _ _ hx7' ?_
         refine pT ?_
         intro hS
         refine sQ ?_
         refine zar ?_
         go_wp2_with fail
         go_meet
         exact⟨_,rfl,Nat.lt_of_lt_of_le (zcX hfw.out _ _) (by rw [show (4294967296:Nat)=2 ^ 32 from rfl];exact Nat.pow_le_pow_right (by omega) (by have:=Hp16.out;omega)),by assumption⟩
        case rest =>
         obtain⟨x,rfl,hxs,hx7⟩:=hcut
         replace hacc2:=hacc2.ext hx7
         clear CS cXX cL hqq hsx7 bX7 hx7
         go_wp2_with fail
         go_loopw [16] (fun v wr=>∃ z:Nat,z≤p+1∧v=.int .i64 z∧∃ (u:Value) (gs:List Edg),Acc w w5 wr R wx.heap.size (M+16*L+10) a ((p:Int)+1) u gs∧gs.length≤i*100+j*16+z∧Hid (Few (p+1) gs)) (fun v _=>p+1 - (intOf v).toNat)
         case atStart=>exact⟨0,Nat.zero_le _,rfl,u,gs,hacc2,by omega,hgf⟩
         case round =>
          clear hacc2 hgl hgf
          obtain⟨z,hz,rfl,u,gs,hacc2,hgl,hgf⟩:=hrel
          have bX7:=bX.frm hacc2.fr (by omega)
          have cX:=bX7.cell
          by_cases hlz:z<p+1
          ·have hlz':(z:Int)<(p:Int)+1:=by omega
           cases hb:x.testBit z
           ·have Hb:=za hb
            clear hb
            go_wp2_with (go_at_call 33;refine (zA x z hxs _ (by omega)).mono ?_;rw [Hb.out];rintro e w' ⟨rfl,rfl⟩)
            go_roundw
            case rel=>exact⟨z+1,by omega,by go_num,u,gs,hacc2,by omega,hgf⟩
            case measure=>simp [intOf];omega
           ·have Hb:=za hb
            clear hb
            obtain⟨ad',l',hadd,_,_,hl',hlc⟩:=(hacc2.old hrd5 (fun k h1 h2=>by omega)).nat hlj
            obtain rfl:ad=ad':=by injection hadd
            obtain rfl:l=l':=by have h1:=hl.out;have h2:=hl'.out;rw [h1] at h2;exact Option.some.inj h2
            have cG:∀ W,Ext wr W→∀ q,W.cell? ⟨wx.heap.size,q,none⟩=#[Value.int .i64 a,.int .i64 ((p:Int)+1),u][q]?:=fun W hW=>(hacc2.blk.ext hW).cell
            have cL:∀ W,Ext wr W→W.cell? (ad.add j)=some (.int .i64 (l:Nat)):=fun W hW=>hW.cell_some hlc
            go_wp2_with (go_at_call 33;refine (zA x z hxs _ (by omega)).mono ?_;rw [Hb.out];rintro e w' ⟨rfl,rfl⟩)
            refine tR (fun X=>Ext wr X) [10,12] (Ord.of [0,1,2,3,4,5,6,7,8,9,10,11,12]) ?_
            refine tQ ?_
            refine zc fun K hK=>?_;go_simp
            refine hK.out _ _ ((Ext.refl _).drew.alloc _) ?_
            refine pT ?_
            refine zi fun K hK=>?_
            refine zab w5 wr.drew _ _ _ rfl 116 _ 3 24 Tryd.underlying37 zN rfl (by decide) u gs.length (zd gs) _ _ rfl rfl hacc2.fr.size hacc2.own rfl (by simp [Value.oneCell']) (by unfold maxLen;omega) (by omega) ?_
            intro g cap w8 hown8 hg8 hat8 hlt8
            refine hK.out _ _ ?_
            refine pT ?_
            refine tQ ?_
            obtain⟨h1,h2,h3⟩:=(hacc2.ext ((Ext.refl _).drew)).push (e:=⟨i,l,z⟩) (W':=w8) hown8 hg8 hat8
            have h1':=h1.out
            refine zi fun K hK=>?_
            go_simp
            refine hK.out _ _ ?_
            refine zr ?_
            go_wp2_with fail
            go_roundw
            case rel=>exact⟨z+1,by omega,by go_num,_,_,h3,by simp;omega,zaT hgf.out (by simp;omega)⟩
            case measure=>simp [intOf];omega
          ·obtain rfl:z=p+1:=by omega
           go_wp2_with fail
           go_roundw
           case rel=>exact⟨j+1,by omega,by go_num,u,gs,hacc2,by have:=Hp16.out;omega,hgf⟩
           case measure=>simp [intOf];omega
       ·obtain rfl:j=ls.length:=by omega
        go_wp2_with fail
        go_roundw
        case rel=>exact⟨i+1,by omega,by go_num,u,gs,hacc2,by omega,hgf⟩
        case measure=>simp [intOf];omega
     ·obtain rfl:i=p+1:=by omega
      obtain⟨A',n',c',rfl⟩:=hacc2.form
      obtain⟨rfl,_⟩:=hacc2.reads
      have hcap:=zbR hacc2.own
      have cG:=hacc2.blk.cell
      have bz2:=bZ5.frm hacc2.fr (by omega)
      have cz:=bz2.cell
      have fz:=bz2.frozen
      obtain⟨f1,f2,f3⟩:=hacc2.fin (Z:=w.heap.size+1) (by omega) (by omega) (.int .i64 a) (.int .i64 ((p:Int)+1)) (.slice A' gs.length c')
      have Hfin:=za (show RetG R (M+16*L+10) (L+2000) w (.returned (.agg #[.int .i64 a,.int .i64 ((p:Int)+1),.slice A' gs.length c'])) _ from ⟨⟨a,(p:Int)+1,gs⟩,A',gs.length,c',rfl,f1,⟨a,p+1,rfl,ha,by simp,by omega,by have:=Hp16.out;omega,hgf.out⟩,by have:=Hp16.out;omega,f2.more (by omega),f3⟩)
      clear f1 f2 f3
      go_wp2_with fail
      exact bodyPost_ret (v:=.agg #[.int .i64 a,.int .i64 ((p:Int)+1),.slice A' gs.length c']) (by simp [results,Tryd.results54,go_sem,cz]) rfl Hfin.out
structure Two (w0 W:World) (R G H M:Nat) (s:Sys) (A:Option Addr) (n c:Nat) (t:Sys) (B:Option Addr) (m d:Nat):Prop where
 z1:Blk W w0.heap.size 39 #[.int .i64 0,.int .i64 0,.slice none 0 0]
 z2:Blk W (w0.heap.size+1) 39 #[.int .i64 0,.int .i64 0,.slice none 0 0]
 va:Blk W G 39 #[.int .i64 s.al,.int .i64 s.st,.slice A n c]
 ia:zK W R A n s
 vb:Blk W H 39 #[.int .i64 t.al,.int .i64 t.st,.slice B m d]
 ib:zK W R B m t
 rd:Rd W R M
 dr:Dr R w0 W
 hR:R<w0.heap.size
 hG:w0.heap.size+2≤G
 hH:G<H
section
variable {w0 W W':World} {R G H M N:Nat} {s t:Sys} {A B:Option Addr} {n c m d:Nat}
theorem Two.ext (h:Two w0 W R G H M s A n c t B m d)(hx:Ext W W'):Two w0 W' R G H M s A n c t B m d:=
 ⟨h.z1.ext hx,h.z2.ext hx,h.va.ext hx,h.ia.ext hx,h.vb.ext hx,h.ib.ext hx,h.rd.ext hx,h.dr.ext hx,h.hR,h.hG,h.hH⟩
theorem Two.more (h:Two w0 W R G H M s A n c t B m d)(hM:M≤N):Two w0 W R G H N s A n c t B m d:={ h with rd:=h.rd.more hM }
theorem Two.drawn (h:Two w0 W R G H M s A n c t B m d)(hd:Dr R W W')(hr:Rd W' R N):Two w0 W' R G H N s A n c t B m d:=
 ⟨h.z1.dr hd (by have:=h.hR;omega),h.z2.dr hd (by have:=h.hR;omega),h.va.dr hd (by have:=h.hR;have:=h.hG;omega),h.ia.dr hd,h.vb.dr hd (by have:=h.hR;have:=h.hG;have:=h.hH;omega),h.ib.dr hd,hr,h.dr.trans hd,h.hR,h.hG,h.hH⟩
theorem blk_fill {w:World} {Z:Nat} {cs:Array Value} {t:TypeId}(h:Blk w Z t cs)(hc:cs.size=3) (u0 u1 u2:Value):Blk (((w.setCell ⟨Z,0,none⟩ u0).setCell ⟨Z,1,none⟩ u1).setCell ⟨Z,2,none⟩ u2) Z t #[u0,u1,u2]:=by
 obtain⟨l⟩:=cs
 match l,hc with
 |[a,b,c],_=>simpa using ((h.set_ 0 u0).set_ 1 u1).set_ 2 u2
theorem Two.setA {s':Sys} {A':Option Addr} {n' c':Nat}(h:Two w0 W R G H M s A n c t B m d)(hs:zK W R A' n' s') :
  Two w0 (((W.setCell ⟨G,0,none⟩ (.int .i64 s'.al)).setCell ⟨G,1,none⟩ (.int .i64 s'.st)).setCell ⟨G,2,none⟩ (.slice A' n' c')) R G H M s' A' n' c' t B m d:=by
 have hf:=zaj W G (.int .i64 s'.al) (.int .i64 s'.st) (.slice A' n' c')
 have h1:=h.hR;have h2:=h.hG;have h3:=h.hH
 exact⟨h.z1.frm hf (by omega),h.z2.frm hf (by omega),blk_fill h.va rfl _ _ _,hs.far h.va (by decide) hf,h.vb.frm hf (by omega),h.ib.far h.va (by decide) hf,h.rd.frm hf (fun k a b=>by omega),
  ((h.dr.setNew (p:=⟨G,0,none⟩) (by dsimp only;omega) _).setNew (p:=⟨G,1,none⟩) (by dsimp only;omega) _).setNew (p:=⟨G,2,none⟩) (by dsimp only;omega) _,h1,h2,h3⟩
theorem Two.setB {t':Sys} {B':Option Addr} {m' d':Nat}(h:Two w0 W R G H M s A n c t B m d)(hs:zK W R B' m' t') :
  Two w0 (((W.setCell ⟨H,0,none⟩ (.int .i64 t'.al)).setCell ⟨H,1,none⟩ (.int .i64 t'.st)).setCell ⟨H,2,none⟩ (.slice B' m' d')) R G H M s A n c t' B' m' d':=by
 have hf:=zaj W H (.int .i64 t'.al) (.int .i64 t'.st) (.slice B' m' d')
 have h1:=h.hR;have h2:=h.hG;have h3:=h.hH
 exact⟨h.z1.frm hf (by omega),h.z2.frm hf (by omega),h.va.frm hf (by omega),h.ia.far h.vb (by decide) hf,blk_fill h.vb rfl _ _ _,hs.far h.vb (by decide) hf,h.rd.frm hf (fun k a b=>by omega),
  ((h.dr.setNew (p:=⟨H,0,none⟩) (by dsimp only;omega) _).setNew (p:=⟨H,1,none⟩) (by dsimp only;omega) _).setNew (p:=⟨H,2,none⟩) (by dsimp only;omega) _,h1,h2,h3⟩
end
def RetP (R M L:Nat) (w:World) (e:Ending) (w':World):Prop:=
 ∃ (s:Sys) (A:Option Addr) (n c:Nat) (t:Sys) (B:Option Addr) (m d:Nat),e=.returned (.tuple #[.agg #[.int .i64 s.al,.int .i64 s.st,.slice A n c],.agg #[.int .i64 t.al,.int .i64 t.st,.slice B m d]]) ∧
  zK w' R A n s∧zK w' R B m t∧(n≤L∧n≤c)∧(m≤L∧m≤d)∧Rd w' R M∧Dr R w w'
theorem Two.fin {w0 W:World} {R G H M L:Nat} {s t:Sys} {A B:Option Addr} {n c m d:Nat}(h:Two w0 W R G H M s A n c t B m d)(hn:n≤L∧n≤c)(hm:m≤L∧m≤d) :
  RetP R M L w0 (.returned (.tuple #[.agg #[.int .i64 s.al,.int .i64 s.st,.slice A n c],.agg #[.int .i64 t.al,.int .i64 t.st,.slice B m d]]))
   (((((((W.setCell ⟨w0.heap.size,0,none⟩ (.int .i64 s.al)).setCell ⟨w0.heap.size,1,none⟩ (.int .i64 s.st)).setCell ⟨w0.heap.size,2,none⟩ (.slice A n c))).setCell ⟨w0.heap.size+1,0,none⟩ (.int .i64 t.al)).setCell ⟨w0.heap.size+1,1,none⟩ (.int .i64 t.st)).setCell ⟨w0.heap.size+1,2,none⟩ (.slice B m d)):=by
 have h1:=h.hR
 have hf:=zaj W w0.heap.size (.int .i64 s.al) (.int .i64 s.st) (.slice A n c)
 have z2:=h.z2.frm hf (by omega)
 have ia:=h.ia.far h.z1 (by decide) hf
 have ib:=h.ib.far h.z1 (by decide) hf
 have rd:=h.rd.frm hf (fun k a b=>by omega)
 have dr:=((h.dr.setNew (p:=⟨w0.heap.size,0,none⟩) (Nat.le_refl _) (.int .i64 s.al)).setNew (p:=⟨w0.heap.size,1,none⟩) (Nat.le_refl _) (.int .i64 s.st)).setNew (p:=⟨w0.heap.size,2,none⟩) (Nat.le_refl _) (.slice A n c)
 generalize ((W.setCell ⟨w0.heap.size,0,none⟩ (.int .i64 s.al)).setCell ⟨w0.heap.size,1,none⟩ (.int .i64 s.st)).setCell ⟨w0.heap.size,2,none⟩ (.slice A n c)=W1 at *
 have hf:=zaj W1 (w0.heap.size+1) (.int .i64 t.al) (.int .i64 t.st) (.slice B m d)
 exact⟨s,A,n,c,t,B,m,d,rfl,ia.far z2 (by decide) hf,ib.far z2 (by decide) hf,hn,hm,rd.frm hf (fun k a b=>by omega),
  ((dr.setNew (p:=⟨w0.heap.size+1,0,none⟩) (Nat.le_succ _) _).setNew (p:=⟨w0.heap.size+1,1,none⟩) (Nat.le_succ _) _).setNew (p:=⟨w0.heap.size+1,2,none⟩) (Nat.le_succ _) _⟩
theorem zbr {R M n c L:Nat} {A:Option Addr} {s:Sys} {w:World}(h:Rd w R M)(hM:M≤900000000)(hs:zK w R A n s)(hg:Good s)(hn:n≤L)(hL:L≤100000) :
  Calls Tryd.prog 55 #[.pointer (some ⟨R,0,none⟩),.agg #[.int .i64 s.al,.int .i64 s.st,.slice A n c]] w (RetG R (M+10) (L+1) w):=by
 obtain⟨al,st,es⟩:=s
 obtain⟨a,p,h1,h2,h3,h4,h5,h6⟩:=hg
 simp only at h1 h3 h6
 subst h1;subst h3
 exact zdG h hM hs h2 h4 h5 h6 hn hL
theorem zej {R M n c L:Nat} {A:Option Addr} {s:Sys} {w:World}(h:Rd w R M)(hM:M≤800000000)(hs:zK w R A n s)(hg:Good s)(hn:n≤L)(hnc:n≤c)(hL:L≤100000) :
  Calls Tryd.prog 54 #[.pointer (some ⟨R,0,none⟩),.agg #[.int .i64 s.al,.int .i64 s.st,.slice A n c]] w (RetG R (M+16*L+10) (L+2000) w):=by
 obtain⟨al,st,es⟩:=s
 obtain⟨a,p,h1,h2,h3,h4,h5,h6⟩:=hg
 simp only at h1 h3 h6
 subst h1;subst h3
 exact zdF h hM hs h2 h4 h5 h6 hn hnc hL
theorem reads_blkD {W:World} {g n:Nat} {us:Array Value} {t:TypeId} (l:List Int)(h:Blk W g t us)(hu:us.toList=ints l)(hn:us.size=n)(h63:n≤1000):Reads W g (g+1) 1 (some ⟨g,0,none⟩) n (ints l):=
 ⟨by rw [← hu];simpa using hn,by omega,fun _=>⟨_,rfl,Nat.le_refl _,by simp,fun j u hj=>by
  have:=h.cell j
  rw [zP,Nat.zero_add,this]
  rw [← hu] at hj
  simpa using hj⟩⟩
theorem zcz {R M g n:Nat} {W:World} {us:Array Value} {t:TypeId} (l:List Int)(h:Blk W g t us)(hu:us.toList=ints l)(hn:us.size=n)(h0:0<n)(h63:n≤1000)(hr:Rd W R M)(hM:M≤1000000000)(hR:R<g) :
  Calls Tryd.prog 90 #[.pointer (some ⟨R,0,none⟩),.slice (some ⟨g,0,none⟩) n n] W (RetNum R M l W):=
 l19Rd_num hr hM (reads_blkD l h hu hn h63) hR h0
theorem zbP {R M:Nat} {al st few:Int} {w:World}(h:Rd w R M)(hM:M≤900000000)(ha:0≤al∧al<64)(hp:1≤st∧st≤16) :
  Calls Tryd.prog 89 #[.pointer (some ⟨R,0,none⟩),.int .i64 al,.int .i64 st,.int .i64 few] w (RetG R (M+20000) 20000 w):=by
 obtain⟨a,rfl⟩:∃ a:Nat,al=a:=⟨al.toNat,by omega⟩
 obtain⟨p,rfl⟩:∃ p:Nat,st=p:=⟨st.toNat,by omega⟩
 exact zbq h hM (by omega) (by omega) (by omega)
theorem zdz (es:List Edg) (k:Nat):(zd es).take (k*3)=zd (es.take k):=by
 induction es generalizing k with
 |nil=>simp [zd]
 |cons e r ih =>
  cases k with
  |zero=>simp [zd]
  |succ k =>
   rw [show (k+1)*3=k*3+1+1+1 by omega]
   simp only [zd,List.take_succ_cons,ih]
theorem zK.front {w:World} {R n k:Nat} {A:Option Addr} {al st:Int} {es:List Edg}(h:zK w R A n ⟨al,st,es⟩)(hk:k≤n):zK w R A k ⟨al,st,es.take k⟩:=by
 have h1:=h.1
 simp only at h1
 refine⟨by simp;omega,by have:=h.2.1;omega,fun h0=>?_⟩
 obtain⟨g,o,cs,e,hR,hh,hc⟩:=h.2.2 (by omega)
 refine⟨g,o,cs,e,hR,hh,fun j u hu=>hc j u ?_⟩
 simp only at hu ⊢
 rw [← zdz] at hu
 rw [List.getElem?_take] at hu
 split at hu
 ·exact hu
 ·cases hu
theorem RetP.drew {R M L:Nat} {w W:World} {e:Ending}(h:RetP R M L w e W):RetP R M L w e W.drew:=by
 obtain⟨s,A,n,c,t,B,m,d,h1,h2,h3,h4,h5,h6,h7⟩:=h
 exact⟨s,A,n,c,t,B,m,d,h1,h2.ext (Ext.refl _).drew,h3.ext (Ext.refl _).drew,h4,h5,h6.ext (Ext.refl _).drew,h7.drew⟩
theorem yV05b1 {P:Prop}(h:P:=by
 refine pT ?_
 refine zc (fun K hK=>?_)
 go_simp
 refine (zcz (n:=2) [2,3] bl2 rfl rfl (by omega) (by omega) hrv3 (by omega) (by omega)).mono ?_
 rintro e v4 ⟨z,hz,rfl,hrv4,hddv4⟩
 have hdv4:=hdv3.trans hddv4
 have hzzv4:=hddv4.size
 refine hK.out _ _ hdv4 ?_
 refine pT ?_
 refine zc (fun K hK=>?_)
 go_simp
 refine (zbP hrv4 (by omega) Hala.out (by simp at hx;omega)).mono ?_
 rintro e v9 ⟨t9,B9,m9,d9,rfl,ht9,hgt9,hm9,hr9,hd9⟩
 have hd69:=hdv4.trans hd9
 replace htwo:=htwo.drawn hd69 hr9
 have Hgt9:=za hgt9
 clear hgt9
 refine hK.out _ _ hd69 ?_
 refine pT ?_
 have cH:=htwo.vb.cell
 have fH:=htwo.vb.frozen
 have fin:=htwo.setB (d':=d9) ht9
 refine zi fun K hK=>?_
 go_simp
 refine hK.out _ _ ?_
 refine zr ?_
 go_wp2_with fail
 go_meet
 exact⟨t9,B9,m9,d9,_,fin,Hgt9,by omega,by omega⟩
 ):P:=h
theorem yV05a1 {P:Prop}(h:P:=by
 refine pT ?_
 refine zc (fun K hK=>?_)
 go_simp
 refine (zcz (n:=4) [2,3,1,4] bl4 rfl rfl (by omega) (by omega) hrv2 (by omega) (by omega)).mono ?_
 rintro e v3 ⟨x,hx,rfl,hrv3,hddv3⟩
 have hdv3:=hdv2.trans hddv3
 replace bl2:=bl2.dr hddv3 (by omega)
 have hzzv3:=hddv3.size
 refine hK.out _ _ hdv3 ?_
 exact yV05b1
 ):P:=h
theorem yV05a4 {P:Prop}(h:P:=by
 replace htwo:=htwo.drawn hd3 hr3
 have cG:=htwo.vb.cell
 have fG:=htwo.vb.frozen
 have fin:=htwo.setB (d':=c3) hs3
 go_wp2_with fail
 go_meet
 exact⟨s,A,n,c,s3,A3,n3,c3,_,fin,by omega,by omega,by omega⟩
 ):P:=h
theorem spec_l6Pair {R M:Nat} {w:World}(h:Rd w R M)(hM:M≤700000000) :
  Calls Tryd.prog 52 #[.pointer (some ⟨R,0,none⟩)] w (RetP R (M+200000) 30000 w):=by
 have hRl:=h.lt
 have hx0:Ext w ((w.alloc (.cells #[.int .i64 0,.int .i64 0,.slice none 0 0] 39)).alloc (.cells #[.int .i64 0,.int .i64 0,.slice none 0 0] 39)):=((Ext.refl _).alloc _).alloc _
 obtain⟨bz1,bz2⟩:=zv (Ext.refl ((w.alloc (.cells #[.int .i64 0,.int .i64 0,.slice none 0 0] 39)).alloc (.cells #[.int .i64 0,.int .i64 0,.slice none 0 0] 39)))
 have Hx0:=za hx0
 have Hz1:=za bz1
 have Hz2:=za bz2
 clear hx0 bz1 bz2
 go_enter Tryd.func52,Tryd.ntmps52
 go_wp2_with fail
 generalize (w.alloc (.cells #[.int .i64 0,.int .i64 0,.slice none 0 0] 39)).alloc (.cells #[.int .i64 0,.int .i64 0,.slice none 0 0] 39)=w1 at *
 refine (zbV (h.ext Hx0.out) (by omega)).mono ?_
 rintro e w2 ⟨s,A,n,c,rfl,hs,hg,hn,hr2,hd2⟩
 have hx3:=(Ext.refl w2).alloc (.cells #[.int .i64 s.al,.int .i64 s.st,.slice A n c] 39)
 have b3:=Blk.new w2 39 #[.int .i64 s.al,.int .i64 s.st,.slice A n c]
 have hw2:=Hx0.out.dr.trans hd2
 have hz2:=hd2.size
 have hzw:=Hz2.out.lt
 have z1:=(Hz1.out.dr hd2 (by omega)).ext hx3
 have z2:=(Hz2.out.dr hd2 (by omega)).ext hx3
 have hs3:=hs.ext hx3
 have hr3:=hr2.ext hx3
 have hw3:=hw2.ext hx3
 have c3:=b3.cell
 have Hg:=za hg
 clear hg hd2 hr2 hs hx3 hw2
 go_wp2_with fail
 generalize w2.alloc (.cells #[.int .i64 s.al,.int .i64 s.st,.slice A n c] 39)=w3 at *
 refine (zbr hr3 (by omega) hs3 Hg.out hn.1 (by omega)).mono ?_
 rintro e w4 ⟨t,B,m,d,rfl,ht,hgt,hm,hr4,hd4⟩
 have hx5:=(Ext.refl w4).alloc (.cells #[.int .i64 t.al,.int .i64 t.st,.slice B m d] 39)
 have b5:=Blk.new w4 39 #[.int .i64 t.al,.int .i64 t.st,.slice B m d]
 have hb34:=b3.dr hd4 (by omega)
 have hw4:=hw3.trans hd4
 have htwo:Two w _ R w2.heap.size w4.heap.size (M+30010) s A n c t B m d:=⟨(z1.dr hd4 (by omega)).ext hx5,(z2.dr hd4 (by omega)).ext hx5,hb34.ext hx5,(hs3.dr hd4).ext hx5,b5,ht.ext hx5,hr4.ext hx5,hw4.ext hx5,hRl,by omega,hb34.lt⟩
 have Hgt:=za hgt
 clear hgt ht hr4 hd4 hx5 b5 hb34 hw4 c3 hw3 hr3 hs3 z1 z2 b3
 go_wp2_with fail
 generalize w4.alloc (.cells #[.int .i64 t.al,.int .i64 t.st,.slice B m d] 39)=w5 at *
 refine (zg (n:=4) htwo.rd (by omega)).mono ?_
 rintro e w6 ⟨y,rfl,-,-,hr6,hd6⟩
 replace htwo:=htwo.drawn hd6 hr6
 clear hr6 hd6 Hz1 Hz2 Hx0
 go_upto_block 0 with fail
 go_cut [] (fun wx=>∃ (t:Sys) (B:Option Addr) (m d N:Nat),Two w wx R w2.heap.size w4.heap.size N s A n c t B m d∧Hid (Good t)∧(m≤20002∧m≤d)∧N≤M+100000)
 case first =>
  by_cases hy0:y=0
  ·subst hy0
   obtain⟨a0,p0,hal,ha0,-,-,-,-⟩:=Hg.out
   have hala:0≤s.al∧s.al<64:=by rw [hal];omega
   have Hala:=za hala
   clear hal hala
   have hRG:=htwo.hR
   have hGG:=htwo.hG
   have hHH:=htwo.hH
   have cG:∀ W,Dr R w6 W→∀ q,W.cell? ⟨w2.heap.size,q,none⟩=#[Value.int .i64 s.al,.int .i64 s.st,.slice A n c][q]?:=fun W hW=>(htwo.va.dr hW (by omega)).cell
   have hzR:=htwo.rd.lt
   go_wp2_with fail
   refine tR (fun X=>Dr R w6 X) [10] (Ord.app [0,1,2,3,6] (Ord.two 4 (Ord.two 5 (Ord.of [7,8,9,10]) 7 (Ord.of [5,8,9,10])) 7 (Ord.of [4,5,8,9,10]))) ?_
   refine tQ ?_
   refine zbf (fun K hK=>?_) (fun K hK=>?_)
   ·have hrw6:=htwo.rd
    go_simp
    have hxv1:Ext w6 (w6.alloc (.cells #[.int .i64 2,.int .i64 3,.int .i64 1,.int .i64 4] 3)).drew:=((Ext.refl _).alloc _).drew
    have bl4:Blk (w6.alloc (.cells #[.int .i64 2,.int .i64 3,.int .i64 1,.int .i64 4] 3)).drew w6.heap.size 3 #[.int .i64 2,.int .i64 3,.int .i64 1,.int .i64 4]:=Blk.new w6 _ _
    have hzv1:=bl4.lt
    have hzzv1:=hxv1.size
    have hdv1:Dr R w6 (w6.alloc (.cells #[.int .i64 2,.int .i64 3,.int .i64 1,.int .i64 4] 3)).drew:=hxv1.dr
    have hrv1:=hrw6.ext hxv1
    refine hK.out _ _ hdv1 ?_
    generalize (w6.alloc (.cells #[.int .i64 2,.int .i64 3,.int .i64 1,.int .i64 4] 3)).drew=v1 at *
    refine pT ?_
    refine zbf (fun K hK=>?_) (fun K hK=>?_)
    ·go_simp
     refine (zcz (n:=4) [2,3,1,4] bl4 rfl rfl (by omega) (by omega) hrv1 (by omega) (by omega)).mono ?_
     rintro e v2 ⟨x,hx,rfl,hrv2,hddv2⟩
     have hdv2:=hdv1.trans hddv2
     have hzzv2:=hddv2.size
     refine hK.out _ _ hdv2 ?_
     refine pT ?_
     refine zc (fun K hK=>?_)
     go_simp
     have hxv3:Ext v2 (v2.alloc (.cells #[.int .i64 2,.int .i64 3] 3)):=(Ext.refl _).alloc _
     have bl2:Blk (v2.alloc (.cells #[.int .i64 2,.int .i64 3] 3)) v2.heap.size 3 #[.int .i64 2,.int .i64 3]:=Blk.new v2 _ _
     have hzv3:=bl2.lt
     have hzzv3:=hxv3.size
     have hdv3:Dr R w6 (v2.alloc (.cells #[.int .i64 2,.int .i64 3] 3)):=hdv2.ext hxv3
     have hrv3:=hrv2.ext hxv3
     refine hK.out _ _ hdv3 ?_
     generalize (v2.alloc (.cells #[.int .i64 2,.int .i64 3] 3))=v3 at *
     exact yV05b1
    ·go_simp
     have hxv2:Ext v1 (v1.alloc (.cells #[.int .i64 2,.int .i64 3] 3)):=(Ext.refl _).alloc _
     have bl2:Blk (v1.alloc (.cells #[.int .i64 2,.int .i64 3] 3)) v1.heap.size 3 #[.int .i64 2,.int .i64 3]:=Blk.new v1 _ _
     have hzv2:=bl2.lt
     have hzzv2:=hxv2.size
     have hdv2:Dr R w6 (v1.alloc (.cells #[.int .i64 2,.int .i64 3] 3)):=hdv1.ext hxv2
     have hrv2:=hrv1.ext hxv2
     replace bl4:=bl4.ext hxv2
     refine hK.out _ _ hdv2 ?_
     generalize (v1.alloc (.cells #[.int .i64 2,.int .i64 3] 3))=v2 at *
     exact yV05a1
   ·have hrw6:=htwo.rd
    go_simp
    have hxv1:Ext w6 (w6.alloc (.cells #[.int .i64 2,.int .i64 3] 3)).drew:=((Ext.refl _).alloc _).drew
    have bl2:Blk (w6.alloc (.cells #[.int .i64 2,.int .i64 3] 3)).drew w6.heap.size 3 #[.int .i64 2,.int .i64 3]:=Blk.new w6 _ _
    have hzv1:=bl2.lt
    have hzzv1:=hxv1.size
    have hdv1:Dr R w6 (w6.alloc (.cells #[.int .i64 2,.int .i64 3] 3)).drew:=hxv1.dr
    have hrv1:=hrw6.ext hxv1
    refine hK.out _ _ hdv1 ?_
    generalize (w6.alloc (.cells #[.int .i64 2,.int .i64 3] 3)).drew=v1 at *
    refine pT ?_
    refine zc (fun K hK=>?_)
    go_simp
    have hxv2:Ext v1 (v1.alloc (.cells #[.int .i64 2,.int .i64 3,.int .i64 1,.int .i64 4] 3)):=(Ext.refl _).alloc _
    have bl4:Blk (v1.alloc (.cells #[.int .i64 2,.int .i64 3,.int .i64 1,.int .i64 4] 3)) v1.heap.size 3 #[.int .i64 2,.int .i64 3,.int .i64 1,.int .i64 4]:=Blk.new v1 _ _
    have hzv2:=bl4.lt
    have hzzv2:=hxv2.size
    have hdv2:Dr R w6 (v1.alloc (.cells #[.int .i64 2,.int .i64 3,.int .i64 1,.int .i64 4] 3)):=hdv1.ext hxv2
    have hrv2:=hrv1.ext hxv2
    replace bl2:=bl2.ext hxv2
    refine hK.out _ _ hdv2 ?_
    generalize (v1.alloc (.cells #[.int .i64 2,.int .i64 3,.int .i64 1,.int .i64 4] 3))=v2 at *
    exact yV05a1
  ·by_cases hy1:y=1
   ·subst hy1
    have cH:=htwo.vb.cell
    go_wp2_with fail
    refine (zbr htwo.rd (by omega) htwo.ib Hgt.out hm.1 (by omega)).mono ?_
    rintro e v9 ⟨t9,B9,m9,d9,rfl,ht9,hgt9,hm9,hr9,hd9⟩
    replace htwo:=htwo.drawn hd9 hr9
    have Hgt9:=za hgt9
    clear hgt9 cH
    have cH:=htwo.vb.cell
    have fH:=htwo.vb.frozen
    have fin:=htwo.setB (d':=d9) ht9
    go_wp2_with fail
    go_meet
    exact⟨t9,B9,m9,d9,_,fin,Hgt9,by omega,by omega⟩
   ·have h0:((y:Int)==0)=false:=by simp;omega
    have h1:((y:Int)==1)=false:=by simp;omega
    clear hy0 hy1
    go_wp2_with fail
    go_meet
    exact⟨t,B,m,d,_,htwo,Hgt,by omega,by omega⟩
 case rest =>
  clear htwo Hgt hm
  obtain⟨t,B,m,d,N,htwo,Hgt,hm,hN⟩:=hcut
  have hRG:=htwo.hR
  have hGG:=htwo.hG
  have hHH:=htwo.hH
  go_wp2_with fail
  refine (zg (n:=24) htwo.rd (by omega)).mono ?_
  rintro e w7 ⟨y,rfl,-,-,hr7,hd7⟩
  replace htwo:=htwo.drawn hd7 hr7
  clear hr7 hd7
  go_upto_block 1 with fail
  go_cut [] (fun wx=>∃ (s:Sys) (A:Option Addr) (n c:Nat) (t:Sys) (B:Option Addr) (m d N:Nat),Two w wx R w2.heap.size w4.heap.size N s A n c t B m d∧(n≤30000∧n≤c)∧(m≤30000∧m≤d)∧N≤M+200000)
  case first =>
   by_cases hy0:y=0
   ·subst hy0
    have cG:=htwo.va.cell
    go_wp2_with fail
    refine (zU (L:=n) htwo.rd (by omega) htwo.ia (Nat.le_refl _) (by omega)).mono ?_
    rintro e v1 ⟨s1,A1,n1,c1,rfl,hs1,hn1,hr1,hd1⟩
    replace htwo:=htwo.drawn hd1 hr1
    clear cG
    go_wp2_with fail
    refine (zU (L:=n1) htwo.rd (by omega) hs1 (Nat.le_refl _) (by omega)).mono ?_
    rintro e v2 ⟨s2,A2,n2,c2,rfl,hs2,hn2,hr2,hd2⟩
    replace htwo:=htwo.drawn hd2 hr2
    go_wp2_with fail
    refine (zU (L:=n2) htwo.rd (by omega) hs2 (Nat.le_refl _) (by omega)).mono ?_
    rintro e v3 ⟨s3,A3,n3,c3,rfl,hs3,hn3,hr3,hd3⟩
    replace htwo:=htwo.drawn hd3 hr3
    have cG:=htwo.va.cell
    have fG:=htwo.va.frozen
    have fin:=htwo.setA (c':=c3) hs3
    go_wp2_with fail
    go_meet
    exact⟨s3,A3,n3,c3,t,B,m,d,_,fin,by omega,by omega,by omega⟩
   by_cases hy1:y=1
   ·subst hy1
    have cG:=htwo.vb.cell
    go_wp2_with fail
    refine (zU (L:=m) htwo.rd (by omega) htwo.ib (Nat.le_refl _) (by omega)).mono ?_
    rintro e v1 ⟨s1,A1,n1,c1,rfl,hs1,hn1,hr1,hd1⟩
    replace htwo:=htwo.drawn hd1 hr1
    clear cG
    go_wp2_with fail
    refine (zU (L:=n1) htwo.rd (by omega) hs1 (Nat.le_refl _) (by omega)).mono ?_
    rintro e v2 ⟨s2,A2,n2,c2,rfl,hs2,hn2,hr2,hd2⟩
    replace htwo:=htwo.drawn hd2 hr2
    go_wp2_with fail
    refine (zU (L:=n2) htwo.rd (by omega) hs2 (Nat.le_refl _) (by omega)).mono ?_
    rintro e v3 ⟨s3,A3,n3,c3,rfl,hs3,hn3,hr3,hd3⟩
    exact yV05a4
   by_cases hy2:y=2
   ·subst hy2
    go_wp2_with fail
    refine (zbV htwo.rd (by omega)).mono ?_
    rintro e v3 ⟨s3,A3,n3,c3,rfl,hs3,-,hn3,hr3,hd3⟩
    exact yV05a4
   by_cases hy3:y=3
   ·subst hy3
    go_wp2_with fail
    refine (zdP htwo.rd (by omega)).mono ?_
    rintro e v3 ⟨s3,A3,n3,c3,rfl,hs3,-,hn3,⟨hn31,hn3c⟩,hr3,hd3⟩
    replace htwo:=htwo.drawn hd3 hr3
    obtain⟨n',rfl⟩:∃ n',n3=n'+1:=⟨n3 - 1,by omega⟩
    obtain⟨g3,o3,cs3,rfl,-⟩:=hs3.2.2 (by omega)
    have cG:=htwo.va.cell
    have fG:=htwo.va.frozen
    have fin:=htwo.setA (c':=c3) hs3
    have hn3c':((n':Int))≤(c3:Int):=by omega
    go_wp2_with fail
    generalize ((v3.setCell ⟨w2.heap.size,0,none⟩ (.int .i64 s3.al)).setCell ⟨w2.heap.size,1,none⟩ (.int .i64 s3.st)).setCell ⟨w2.heap.size,2,none⟩ (.slice (some ⟨g3,o3,none⟩) (n'+1) c3)=w8 at *
    clear cG fG
    have cG:∀ W,Ext w8 W→∀ q,W.cell? ⟨w2.heap.size,q,none⟩=#[Value.int .i64 s3.al,.int .i64 s3.st,.slice (some ⟨g3,o3,none⟩) (n'+1) c3][q]?:=fun W hW=>(fin.va.ext hW).cell
    have hfr:=zK.front (al:=s3.al) (st:=s3.st) (es:=s3.edges) fin.ia (k:=n') (by omega)
    have Hfr:=za hfr
    clear hfr
    have hRw8:=fin.rd.lt
    have hwr:IntKind.i64.wrap (n':Int)=n':=IntWalk.i64_in _ (by omega)
    have hn0:0≤(n':Int):=by omega
    refine tR (fun X=>Ext w8 X) [14] (Ord.of [0,1,2,3,5,6,7,8,9,10,11,4,12,13,14]) ?_
    refine tQ ?_
    clear hwr
    refine zc fun K hK=>?_;go_simp
    refine hK.out _ _ ((Ext.refl _).drew.alloc _) ?_
    refine pT ?_
    refine zc (fun K hK=>?_)
    refine zaR _ _ _ _ rfl w8.heap.size 116 _ 3 24 Tryd.underlying37 zN rfl (by decide) (.slice (some ⟨w8.heap.size,0,none⟩) 0 0) 0 [] rfl (edge_lit w8) (R+1) w8.heap.size (some ⟨g3,o3,none⟩) n' c3 (zd (s3.edges.take n')) rfl (Hfr.out.at_.2.ext ((Ext.refl w8).drew.alloc _)) (zaL _) (by unfold maxLen;omega) (by omega) (by simp) ?_
    intro v w9 hown9 hg9 hat9
    rw [Nat.zero_add,List.nil_append] at hown9
    obtain⟨A9,c9,rfl⟩:=zl hown9
    have hcap9:=zbR hown9
    have hx9:Ext w8 w9:=(((Ext.refl w8).alloc (.cells #[] 116)).drew).grown hg9 (fun k hk=>by simp [Value.ownBlock] at hk;omega)
    replace fin:=fin.ext hx9
    have hin:=zK.own (s:=⟨s3.al,s3.st,s3.edges.take n'⟩) hown9 hRw8
    have fin2:=fin.setB (d':=c9) hin
    have cH:=fin.vb.cell
    have fH:=fin.vb.frozen
    refine hK.out _ _ hx9 ?_
    refine pT ?_
    refine tQ ?_
    refine zi fun K hK=>?_
    go_simp
    refine hK.out _ _ ?_
    refine zr ?_
    go_wp2_with fail
    go_meet
    exact⟨_,_,_,c3,_,_,_,_,_,fin2,by omega,by omega,by omega⟩
   have h0:((y:Int)==0)=false:=by simp;omega
   have h1:((y:Int)==1)=false:=by simp;omega
   have h2:((y:Int)==2)=false:=by simp;omega
   have h3:((y:Int)==3)=false:=by simp;omega
   clear hy0 hy1 hy2 hy3
   go_wp2_with fail
   go_meet
   exact⟨s,A,n,c,t,B,m,d,_,htwo,by omega,by omega,by omega⟩
  case rest =>
   clear htwo Hgt hm hn hN Hg
   obtain⟨s,A,n,c,t,B,m,d,N,htwo,hn,hm,hN⟩:=hcut
   obtain⟨wE,hwE⟩:∃ wE,wE=wc:=⟨_,rfl⟩
   subst hwE
   have hS0:Frm (fun k=>k=w.heap.size) wE wE.drew:=⟨rfl,rfl,rfl,Nat.le_refl _,fun _ _ _=>rfl⟩
   have zes:=za (((htwo.more hN).fin hn hm).drew)
   have cG:∀ W,Frm (fun k=>k=w.heap.size) wE W→∀ q,W.cell? ⟨w2.heap.size,q,none⟩=#[Value.int .i64 s.al,.int .i64 s.st,.slice A n c][q]?:=fun W hW=>(htwo.va.frm hW (by omega)).cell
   have cH:∀ W,Frm (fun k=>k=w.heap.size) wE W→∀ q,W.cell? ⟨w4.heap.size,q,none⟩=#[Value.int .i64 t.al,.int .i64 t.st,.slice B m d][q]?:=fun W hW=>(htwo.vb.frm hW (by omega)).cell
   have cz1:=htwo.z1.cell
   have fz1:=htwo.z1.frozen
   have cz2:=htwo.z2.cell
   have fz2:=htwo.z2.frozen
   go_wp2_with fail
   refine tR (fun X=>Frm (fun k=>k=w.heap.size) wE X) [3] (Ord.of [0,1,2,3]) ?_
   refine tQ ?_
   refine zc fun K hK=>?_;go_simp
   refine hK.out _ _ (hS0.trans (zaj _ _ _ _ _)) ?_
   refine pT ?_
   refine zi fun K hK=>?_
   go_simp
   refine hK.out _ _ ?_
   refine zr ?_
   go_wp2_with fail
   exact bodyPost_ret (v:=.tuple #[.agg #[.int .i64 s.al,.int .i64 s.st,.slice A n c],.agg #[.int .i64 t.al,.int .i64 t.st,.slice B m d]]) (by simp [results,Tryd.results52,go_sem,cz1,cz2]) rfl zes.out
theorem spec_l15Pair {R M:Nat} {w:World}(h:Rd w R M)(hM:M≤600000000) :
  Calls Tryd.prog 23 #[.pointer (some ⟨R,0,none⟩)] w (RetP R (M+1000000) 40000 w):=by
 have hRl:=h.lt
 have hx0:Ext w ((w.alloc (.cells #[.int .i64 0,.int .i64 0,.slice none 0 0] 39)).alloc (.cells #[.int .i64 0,.int .i64 0,.slice none 0 0] 39)):=((Ext.refl _).alloc _).alloc _
 obtain⟨bz1,bz2⟩:=zv (Ext.refl ((w.alloc (.cells #[.int .i64 0,.int .i64 0,.slice none 0 0] 39)).alloc (.cells #[.int .i64 0,.int .i64 0,.slice none 0 0] 39)))
 have Hx0:=za hx0
 have Hz1:=za bz1
 have Hz2:=za bz2
 clear hx0 bz1 bz2
 go_enter Tryd.func23,Tryd.ntmps23
 go_wp2_with fail
 generalize (w.alloc (.cells #[.int .i64 0,.int .i64 0,.slice none 0 0] 39)).alloc (.cells #[.int .i64 0,.int .i64 0,.slice none 0 0] 39)=w1 at *
 refine (spec_l6Pair (h.ext Hx0.out) (by omega)).mono ?_
 rintro e w2 ⟨s,A,n,c,t,B,m,d,rfl,hs,ht,hn,hm,hr2,hd2⟩
 have hw2:=Hx0.out.dr.trans hd2
 have hz2:=hd2.size
 have hzw:=Hz2.out.lt
 have z1:=Hz1.out.dr hd2 (by omega)
 have z2:=Hz2.out.dr hd2 (by omega)
 have hx3:Ext w2 ((w2.alloc (.cells #[.int .i64 s.al,.int .i64 s.st,.slice A n c] 39)).alloc (.cells #[.int .i64 t.al,.int .i64 t.st,.slice B m d] 39)):=((Ext.refl _).alloc _).alloc _
 obtain⟨b1,b2⟩:=zv (Ext.refl ((w2.alloc (.cells #[.int .i64 s.al,.int .i64 s.st,.slice A n c] 39)).alloc (.cells #[.int .i64 t.al,.int .i64 t.st,.slice B m d] 39)))
 have htwo:Two w _ R w2.heap.size (w2.heap.size+1) (M+200000) s A n c t B m d:=⟨z1.ext hx3,z2.ext hx3,b1,hs.ext hx3,b2,ht.ext hx3,hr2.ext hx3,hw2.ext hx3,hRl,by omega,by omega⟩
 clear Hx0 Hz1 Hz2 z1 z2 b1 b2 hs ht hr2 hw2 hx3 hd2
 go_upto_region 2 with fail
 generalize (w2.alloc (.cells #[.int .i64 s.al,.int .i64 s.st,.slice A n c] 39)).alloc (.cells #[.int .i64 t.al,.int .i64 t.st,.slice B m d] 39)=w3 at *
 go_cut [17] (fun v wx=>∃ (q:Bool) (N:Nat),v=.bool q∧(q=true→Hid (zk s=true))∧Two w wx R w2.heap.size (w2.heap.size+1) N s A n c t B m d∧N≤M+200001)
 case first =>
  have cG:=htwo.va.cell
  cases hv:zk s
  ·have Hv:=za hv
   clear hv
   go_wp2_with fail
   refine (zw htwo.ia.at_).mono ?_
   rw [Hv.out]
   rintro e w4 ⟨rfl,hx4⟩
   go_wp2_with fail
   go_meet
   exact⟨false,_,rfl,(fun h=>(by cases h)),htwo.ext hx4,by omega⟩
  ·have Hv:=za hv
   clear hv
   go_wp2_with fail
   refine (zw htwo.ia.at_).mono ?_
   rw [Hv.out]
   rintro e w4 ⟨rfl,hx4⟩
   replace htwo:=htwo.ext hx4
   go_wp2_with fail
   refine (zg (n:=2) htwo.rd (by omega)).mono ?_
   rintro e w5 ⟨y,rfl,-,-,hr5,hd5⟩
   replace htwo:=htwo.drawn hd5 hr5
   go_wp2_with fail
   go_meet
   exact⟨_,_,rfl,fun _=>za Hv.out,htwo,by omega⟩
 case rest =>
  clear htwo
  obtain⟨q,N,rfl,hq,htwo,hN⟩:=hcut
  have hRG:=htwo.hR
  go_upto_if 17 with fail
  go_cut [] (fun wx=>∃ (t:Sys) (B:Option Addr) (m d N:Nat),Two w wx R w2.heap.size (w2.heap.size+1) N s A n c t B m d∧(m≤40000∧m≤d)∧N≤M+1000000)
  case first =>
   cases q
   ·go_wp2_with fail
    go_meet
    exact⟨t,B,m,d,_,htwo,by omega,by omega⟩
   ·have Hv:=hq rfl
    have cG:=htwo.va.cell
    clear hq
    go_wp2_with fail
    refine (zej (L:=n) htwo.rd (by omega) htwo.ia (zdQ Hv.out) (Nat.le_refl _) hn.2 (by omega)).mono ?_
    rintro e w5 ⟨t5,B5,m5,d5,rfl,ht5,hg5,hm5,hr5,hd5⟩
    replace htwo:=htwo.drawn hd5 hr5
    have Hg5:=za hg5
    clear hg5 cG
    have cH:=htwo.vb.cell
    have fH:=htwo.vb.frozen
    have fin:=htwo.setB (d':=d5) ht5
    have cH2:=fin.vb.cell
    by_cases hst:t5.st<16
    ·go_wp2_with fail
     generalize ((w5.setCell ⟨w2.heap.size+1,0,none⟩ (.int .i64 t5.al)).setCell ⟨w2.heap.size+1,1,none⟩ (.int .i64 t5.st)).setCell ⟨w2.heap.size+1,2,none⟩ (.slice B5 m5 d5)=w6 at *
     clear cH fH htwo cH2
     refine (zg (n:=3) fin.rd (by omega)).mono ?_
     rintro e w7 ⟨y,rfl,-,-,hr7,hd7⟩
     replace fin:=fin.drawn hd7 hr7
     by_cases hy:y=0
     ·subst hy
      have cH:=fin.vb.cell
      go_wp2_with fail
      refine (zbr (L:=m5) fin.rd (by omega) fin.ib Hg5.out (Nat.le_refl _) (by omega)).mono ?_
      rintro e w8 ⟨t8,B8,m8,d8,rfl,ht8,-,hm8,hr8,hd8⟩
      replace fin:=fin.drawn hd8 hr8
      clear cH
      have cH:=fin.vb.cell
      have fH:=fin.vb.frozen
      have fin2:=fin.setB (d':=d8) ht8
      go_wp2_with fail
      go_meet
      exact⟨t8,B8,m8,d8,_,fin2,by omega,by omega⟩
     ·have hy':((y:Int)==0)=false:=by simp;omega
      clear hy
      go_wp2_with fail
      go_meet
      exact⟨t5,B5,m5,d5,_,fin,by omega,by omega⟩
    ·go_wp2_with fail
     go_meet
     exact⟨t5,B5,m5,d5,_,fin,by omega,by omega⟩
  case rest =>
   clear htwo hm hN hq
   obtain⟨t,B,m,d,N,htwo,hm,hN⟩:=hcut
   obtain⟨wE,hwE⟩:∃ wE,wE=wc:=⟨_,rfl⟩
   subst hwE
   have hHH:=htwo.hH
   have hS0:Frm (fun k=>k=w.heap.size) wE wE.drew:=⟨rfl,rfl,rfl,Nat.le_refl _,fun _ _ _=>rfl⟩
   have zes:=za (((htwo.more hN).fin (L:=40000) (by omega) hm).drew)
   have cG:∀ W,Frm (fun k=>k=w.heap.size) wE W→∀ q,W.cell? ⟨w2.heap.size,q,none⟩=#[Value.int .i64 s.al,.int .i64 s.st,.slice A n c][q]?:=fun W hW=>(htwo.va.frm hW (by omega)).cell
   have cH:∀ W,Frm (fun k=>k=w.heap.size) wE W→∀ q,W.cell? ⟨w2.heap.size+1,q,none⟩=#[Value.int .i64 t.al,.int .i64 t.st,.slice B m d][q]?:=fun W hW=>(htwo.vb.frm hW (by omega)).cell
   have cz1:=htwo.z1.cell
   have fz1:=htwo.z1.frozen
   have cz2:=htwo.z2.cell
   have fz2:=htwo.z2.frozen
   go_wp2_with fail
   refine tR (fun X=>Frm (fun k=>k=w.heap.size) wE X) [3] (Ord.of [0,1,2,3]) ?_
   refine tQ ?_
   refine zc fun K hK=>?_;go_simp
   refine hK.out _ _ (hS0.trans (zaj _ _ _ _ _)) ?_
   refine pT ?_
   refine zi fun K hK=>?_
   go_simp
   refine hK.out _ _ ?_
   refine zr ?_
   go_wp2_with fail
   exact bodyPost_ret (v:=.tuple #[.agg #[.int .i64 s.al,.int .i64 s.st,.slice A n c],.agg #[.int .i64 t.al,.int .i64 t.st,.slice B m d]]) (by simp [results,Tryd.results23,go_sem,cz1,cz2]) rfl zes.out
def RetD2 (w:World) (e:Ending) (w':World):Prop:=
 ∃ (s:Sys) (A:Option Addr) (n c:Nat) (t:Sys) (B:Option Addr) (m d:Nat),e=.returned (.tuple #[.agg #[.int .i64 s.al,.int .i64 s.st,.slice A n c],.agg #[.int .i64 t.al,.int .i64 t.st,.slice B m d]]) ∧
  zQ w' w.heap.size w'.heap.size A n s∧zQ w' w.heap.size w'.heap.size B m t∧(n≤40000∧n≤c)∧(m≤40000∧m≤d)∧Ext w w'
theorem Dr.new {R:Nat} {w w1 w2:World}(h:Ext w w1)(hR:w.heap.size≤R)(hd:Dr R w1 w2):Ext w w2:=
 h.frm hd (fun k hk he=>by omega)
theorem zK.new {R n:Nat} {w W:World} {A:Option Addr} {s:Sys}(h:zK W R A n s)(hR:w.heap.size≤R):zQ W w.heap.size W.heap.size A n s:=
 h.at_.more (by omega) (Nat.le_refl _)
theorem draw_two {R n c m d:Nat} {w W:World} {A B:Option Addr} {s t:Sys}(hs:zK W R A n s)(ht:zK W R B m t)(hn:n≤40000∧n≤c)(hm:m≤40000∧m≤d)(hR:w.heap.size≤R)(hx:Ext w W)
  (hz:Blk W w.heap.size 39 #[.int .i64 0,.int .i64 0,.slice none 0 0]) (hz2:Blk W (w.heap.size+1) 39 #[.int .i64 0,.int .i64 0,.slice none 0 0]) :
  RetD2 w (.returned (.tuple #[.agg #[.int .i64 s.al,.int .i64 s.st,.slice A n c],.agg #[.int .i64 t.al,.int .i64 t.st,.slice B m d]])) ((((((W.setCell ⟨w.heap.size,0,none⟩ (.int .i64 s.al)).setCell ⟨w.heap.size,1,none⟩ (.int .i64 s.st)).setCell ⟨w.heap.size,2,none⟩ (.slice A n c)).setCell ⟨w.heap.size+1,0,none⟩ (.int .i64 t.al)).setCell ⟨w.heap.size+1,1,none⟩ (.int .i64 t.st)).setCell ⟨w.heap.size+1,2,none⟩ (.slice B m d)):=by
 have hf:=zaj W w.heap.size (.int .i64 s.al) (.int .i64 s.st) (.slice A n c)
 have a1:=hs.far hz (by decide) hf
 have a2:=ht.far hz (by decide) hf
 have a3:=hz2.frm hf (by omega)
 have hx2:=((hx.setCell (p:=⟨w.heap.size,0,none⟩) (Nat.le_refl _) (.int .i64 s.al)).setCell (p:=⟨w.heap.size,1,none⟩) (Nat.le_refl _) (.int .i64 s.st)).setCell (p:=⟨w.heap.size,2,none⟩) (Nat.le_refl _) (.slice A n c)
 generalize ((W.setCell ⟨w.heap.size,0,none⟩ (.int .i64 s.al)).setCell ⟨w.heap.size,1,none⟩ (.int .i64 s.st)).setCell ⟨w.heap.size,2,none⟩ (.slice A n c)=W1 at *
 have hf:=zaj W1 (w.heap.size+1) (.int .i64 t.al) (.int .i64 t.st) (.slice B m d)
 exact⟨s,A,n,c,t,B,m,d,rfl,(a1.far a3 (by decide) hf).new hR,(a2.far a3 (by decide) hf).new hR,hn,hm,
  ((hx2.setCell (p:=⟨w.heap.size+1,0,none⟩) (Nat.le_succ _) _).setCell (p:=⟨w.heap.size+1,1,none⟩) (Nat.le_succ _) _).setCell (p:=⟨w.heap.size+1,2,none⟩) (Nat.le_succ _) _⟩
theorem spec_DrawSimulates {A:Option Addr} {n c:Nat} {w:World}(h:Bytes w A n)(hn:n≤9223372036854775807)(hc:n≤c)(hc2:c≤9223372036854775807) :
  Calls Tryd.prog 10 #[.slice A n c] w (RetD2 w):=by
 have hx0:Ext w ((w.alloc (.cells #[.int .i64 0,.int .i64 0,.slice none 0 0] 39)).alloc (.cells #[.int .i64 0,.int .i64 0,.slice none 0 0] 39)):=((Ext.refl _).alloc _).alloc _
 obtain⟨bz,by_⟩:=zv (Ext.refl ((w.alloc (.cells #[.int .i64 0,.int .i64 0,.slice none 0 0] 39)).alloc (.cells #[.int .i64 0,.int .i64 0,.slice none 0 0] 39)))
 have hh:=za (h.ext hx0)
 have hz0:=by_.lt
 clear h
 go_enter Tryd.func10,Tryd.ntmps10
 go_wp2_with fail
 refine (zcJ hh.out hn hc hc2).mono ?_
 rintro e w1 ⟨R,rfl,hR,hr1,hx1⟩
 have hx01:=hx0.trans hx1
 have bz1:=bz.ext hx1
 have by1:=by_.ext hx1
 go_wp2_with fail
 refine (spec_l15Pair hr1 (by omega)).mono ?_
 rintro e w2 ⟨s,C,k,q,t,B,m,d,rfl,hs,ht,hk,hm,hr2,hd2⟩
 have bz2:=bz1.dr hd2 (by omega)
 have by2:=by1.dr hd2 (by omega)
 have cz:=bz2.cell
 have fz:=bz2.frozen
 have cy:=by2.cell
 have fy:=by2.frozen
 have zes:=za (draw_two (c:=q) (d:=d) hs ht hk hm (by omega) (Dr.new hx01 (by omega) hd2) bz2 by2)
 clear bz by_ bz1 by1 hx0 hx1
 go_wp2_with fail
 exact bodyPost_ret (v:=.tuple #[.agg #[.int .i64 s.al,.int .i64 s.st,.slice C k q],.agg #[.int .i64 t.al,.int .i64 t.st,.slice B m d]]) (by simp [results,Tryd.results10,go_sem,cz,cy]) rfl zes.out
theorem zcO {lo hi n c:Nat} {A:Option Addr} {s:Sys} {w:World}(h:zQ w lo hi A n s) :
  Calls Tryd.prog 27 #[.agg #[.int .i64 s.al,.int .i64 s.st,.slice A n c]] w (zdT w):=by
 have HV:=za (fun W (hW:Ext w W)=>zw (c:=c) (h.ext hW))
 have HS:=za (fun W (hW:Ext w W) (hv:zk s=true)=>show Calls Tryd.prog 62 #[.agg #[.int .i64 s.al,.int .i64 s.st,.slice A n c],.int .i64 s.al] W (zdT W) from by
  obtain⟨p,hp,hp1,hp2,hf⟩:=zan hv
  obtain⟨a,ha,ha2⟩:=zen hv
  exact zdH (c:=c) (h.ext hW) hf hp2 ha ha2)
 clear h
 have hx0:Ext w ((w.alloc (.cells #[.int .i64 s.al,.int .i64 s.st,.slice A n c] 39)).alloc (.cells #[.int .i64 0,.slice none 0 0,.slice none 0 0] 30)):=((Ext.refl _).alloc _).alloc _
 obtain⟨b0,bz⟩:=zv (Ext.refl ((w.alloc (.cells #[.int .i64 s.al,.int .i64 s.st,.slice A n c] 39)).alloc (.cells #[.int .i64 0,.slice none 0 0,.slice none 0 0] 30)))
 have hsz0:((w.alloc (.cells #[.int .i64 s.al,.int .i64 s.st,.slice A n c] 39)).alloc (.cells #[.int .i64 0,.slice none 0 0,.slice none 0 0] 30)).heap.size=w.heap.size+2:=by simp
 go_enter Tryd.func27,Tryd.ntmps27
 go_upto_region 1 with fail
 generalize (w.alloc (.cells #[.int .i64 s.al,.int .i64 s.st,.slice A n c] 39)).alloc (.cells #[.int .i64 0,.slice none 0 0,.slice none 0 0] 30)=wA at *
 have c0:=b0.cell
 go_upto_region 99 with fail
 refine (HV.out _ hx0).mono ?_
 rintro e w1 ⟨rfl,hx1⟩
 have hw1:=hx0.trans hx1
 replace b0:=b0.ext hx1
 replace bz:=bz.ext hx1
 clear c0
 have c0:=b0.cell
 have hs1:=hx1.size
 cases hv:zk s
 ·have cz:=bz.cell
  have fz:=bz.frozen
  have hno:=za (ret_noS (Z:=w.heap.size+1) hw1 (by omega))
  go_wp2_with fail
  have hfb:=zas bz rfl (.int .i64 0) (.slice none 0 0) (.slice none 0 0)
  have cf:=hfb.cell
  exact bodyPost_ret (v:=.tuple #[.agg #[.int .i64 0,.slice none 0 0,.slice none 0 0],.bool false]) (by simp [results,Tryd.results27,go_sem,cf]) rfl hno.out
 ·have HS2:=za (HS.out _ hw1 hv)
  clear HS HV
  go_upto_region 99 with fail
  refine HS2.out.mono ?_
  rintro e w2 ⟨b,B,m,d,B',m',d',ok,rfl,zep,hbd,hx2⟩
  clear HS2 c0
  replace bz:=bz.ext hx2
  have cz:=bz.cell
  have fz:=bz.frozen
  have hs2:=hx2.size
  have hF:=zak w2 (w.heap.size+1) (.int .i64 b.al) (.slice B m d) (.slice B' m' d')
  have f2:=zas bz rfl (.int .i64 b.al) (.slice B m d) (.slice B' m' d')
  have f1:=za ((zep.keep hF (fun k h1 e=>by have e':k=w.heap.size+1:=e;omega)).less (base':=w.heap.size) (by omega))
  have f3:=za ((hw1.trans hx2).frm hF (fun k hk e=>by have e':k=w.heap.size+1:=e;omega))
  clear zep
  go_wp2_with fail
  have cf:=f2.cell
  exact bodyPost_ret (v:=.tuple #[.agg #[.int .i64 b.al,.slice B m d,.slice B' m' d'],.bool ok]) (by simp [results,Tryd.results27,go_sem,cf]) rfl ⟨b,B,m,d,B',m',d',ok,rfl,f1.out,hbd,f3.out⟩
def sysZ:Sys:=⟨0,0,[]⟩
theorem in_sysZ (w:World) (R:Nat):zK w R none 0 sysZ:=⟨rfl,by omega,fun h=>absurd h (by omega)⟩
structure Duo (w0 W:World) (R M L K:Nat) (Zs Zp Gs Gp:Nat) (s:Sys) (A:Option Addr) (n c:Nat) (p:Aut) (B:Option Addr) (m d:Nat) (B':Option Addr) (m' d':Nat):Prop where
 at_:zcc w0 W R M L K s A n c sysZ none 0 0 p B m d B' m' d'
 zs:Blk W Zs 39 #[.int .i64 0,.int .i64 0,.slice none 0 0]
 zp:Blk W Zp 30 #[.int .i64 0,.slice none 0 0,.slice none 0 0]
 bs:Blk W Gs 39 #[.int .i64 s.al,.int .i64 s.st,.slice A n c]
 bp:Blk W Gp 30 #[.int .i64 p.al,.slice B m d,.slice B' m' d']
 ge:(w0.heap.size≤Gs∧w0.heap.size≤Gp)∧(Zs≠R∧Zp≠R)
 ne:Zs≠Zp∧Zs≠Gs∧Zs≠Gp∧Zp≠Gs∧Zp≠Gp∧Gs≠Gp
section
variable {w0 W W':World} {R M L K N J H n c m d m' d' Zs Zp Gs Gp:Nat} {s:Sys} {p:Aut} {A B B':Option Addr}
theorem Duo.drawn (h:Duo w0 W R M L K Zs Zp Gs Gp s A n c p B m d B' m' d')(hd:Dr R W W')(hr:Rd W' R N):Duo w0 W' R N L K Zs Zp Gs Gp s A n c p B m d B' m' d':=by
 have hR:=h.at_.hR
 have hg:=h.ge
 exact⟨h.at_.drawn hd hr,h.zs.dr hd hg.2.1,h.zp.dr hd hg.2.2,h.bs.dr hd (by omega),h.bp.dr hd (by omega),hg,h.ne⟩
theorem Duo.ext (h:Duo w0 W R M L K Zs Zp Gs Gp s A n c p B m d B' m' d')(hx:Ext W W'):Duo w0 W' R M L K Zs Zp Gs Gp s A n c p B m d B' m' d':=h.drawn hx.dr (h.at_.rd.ext hx)
theorem Duo.more (h:Duo w0 W R M L K Zs Zp Gs Gp s A n c p B m d B' m' d')(hM:M≤N)(hL:L≤J)(hK:K≤H):Duo w0 W R N J H Zs Zp Gs Gp s A n c p B m d B' m' d':={ h with at_:=h.at_.more hM hL hK }
theorem Duo.setS {s2:Sys} {A2:Option Addr} {n2 d2:Nat}(h:Duo w0 W R M L K Zs Zp Gs Gp s A n c p B m d B' m' d')(hs:zK W R A2 n2 s2)(hn:n2≤L∧n2≤d2) :
  Duo w0 (((W.setCell ⟨Gs,0,none⟩ (.int .i64 s2.al)).setCell ⟨Gs,1,none⟩ (.int .i64 s2.st)).setCell ⟨Gs,2,none⟩ (.slice A2 n2 d2)) R M L K Zs Zp Gs Gp s2 A2 n2 d2 p B m d B' m' d':=by
 have hf:=zbE W Gs (.int .i64 s2.al) (.int .i64 s2.st) (.slice A2 n2 d2)
 have hne:=h.ne
 have h1:=h.at_.far h.bs hf h.ge.1.1 (by decide) (by decide)
 exact⟨{ h1 with is:=hs.far h.bs (by decide) hf,ns:=⟨hn,h1.ns.2⟩ },h.zs.frm hf (by omega),h.zp.frm hf (by omega),zbD h.bs rfl _ _ _,h.bp.frm hf (by omega),h.ge,h.ne⟩
theorem Duo.setP {p2:Aut} {A2:Option Addr} {n2 d2:Nat} {A3:Option Addr} {n3 d3:Nat}(h:Duo w0 W R M L K Zs Zp Gs Gp s A n c p B m d B' m' d')(hp:zX W (R+1) A2 n2 d2 A3 n3 d3 p2)(hb:BdA K p2) :
  Duo w0 (((W.setCell ⟨Gp,0,none⟩ (.int .i64 p2.al)).setCell ⟨Gp,1,none⟩ (.slice A2 n2 d2)).setCell ⟨Gp,2,none⟩ (.slice A3 n3 d3)) R M L K Zs Zp Gs Gp s A n c p2 A2 n2 d2 A3 n3 d3:=by
 have hf:=zbE W Gp (.int .i64 p2.al) (.slice A2 n2 d2) (.slice A3 n3 d3)
 have hne:=h.ne
 have h1:=h.at_.far h.bp hf h.ge.1.2 (by decide) (by decide)
 exact⟨{ h1 with ip:=hp.farT h.bp hf (by decide),bd:=za hb },h.zs.frm hf (by omega),h.zp.frm hf (by omega),h.bs.frm hf (by omega),zbD h.bp rfl _ _ _,h.ge,h.ne⟩
end
def RetSP (R M L K:Nat) (w:World) (e:Ending) (w':World):Prop:=
 ∃ (s:Sys) (A:Option Addr) (n c:Nat) (p:Aut) (B:Option Addr) (m d:Nat) (B':Option Addr) (m' d':Nat),
  e=.returned (.tuple #[.agg #[.int .i64 s.al,.int .i64 s.st,.slice A n c],.agg #[.int .i64 p.al,.slice B m d,.slice B' m' d']])∧zcc w w' R M L K s A n c sysZ none 0 0 p B m d B' m' d'
theorem yV05a5 {P:Prop}(h:P:=by
 have cG:=ht4.bp.cell
 have fG:=ht4.bp.frozen
 have fin:=ht4.setP (ho3.less (by omega)) (BdL.more hb3.out (by omega))
 go_wp2_with fail
 go_meet
 exact⟨_,_,_,_,_,_,_,_,_,_,_,fin⟩
 ):P:=h
theorem yV05a6 {P:Prop}(h:P:=by
 have cG:=ht4.bs.cell
 have fG:=ht4.bs.frozen
 have fin:=ht4.setS (d2:=d3) hs3 (by omega)
 go_wp2_with fail
 go_meet
 exact⟨_,_,_,_,_,_,_,_,_,_,_,fin⟩
 ):P:=h
theorem spec_l8Draw {R M:Nat} {w:World}(h:Rd w R M)(hM:M≤500000000) :
  Calls Tryd.prog 25 #[.pointer (some ⟨R,0,none⟩)] w (RetSP R (M+40000) 30000 60 w):=by
 have hRl:=h.lt
 have hx0:Ext w ((w.alloc (.cells #[.int .i64 0,.int .i64 0,.slice none 0 0] 39)).alloc (.cells #[.int .i64 0,.slice none 0 0,.slice none 0 0] 30)):=((Ext.refl _).alloc _).alloc _
 obtain⟨z1,z2⟩:=zv (Ext.refl ((w.alloc (.cells #[.int .i64 0,.int .i64 0,.slice none 0 0] 39)).alloc (.cells #[.int .i64 0,.slice none 0 0,.slice none 0 0] 30)))
 have hsz:((w.alloc (.cells #[.int .i64 0,.int .i64 0,.slice none 0 0] 39)).alloc (.cells #[.int .i64 0,.slice none 0 0,.slice none 0 0] 30)).heap.size=w.heap.size+2:=by simp
 go_enter Tryd.func25,Tryd.ntmps25
 go_upto_region 1 with fail
 generalize (w.alloc (.cells #[.int .i64 0,.int .i64 0,.slice none 0 0] 39)).alloc (.cells #[.int .i64 0,.slice none 0 0,.slice none 0 0] 30)=w0 at *
 go_wp2_with fail
 refine (zbV (h.ext hx0) (by omega)).mono ?_
 rintro e w1 ⟨s,A,n,c,rfl,hs1,hg1,hn1,hr1,hd1⟩
 have hw1:=hd1.size
 obtain⟨a,-,hal,ha,-⟩:=hg1
 have Hal:=za hal
 clear hal
 have hx2:=(Ext.refl w1).alloc (.cells #[.int .i64 s.al,.int .i64 s.st,.slice A n c] 39)
 have bs:=Blk.new w1 39 #[.int .i64 s.al,.int .i64 s.st,.slice A n c]
 have hs2:(w1.alloc (.cells #[.int .i64 s.al,.int .i64 s.st,.slice A n c] 39)).heap.size=w1.heap.size+1:=by simp
 have hd2:Dr R w (w1.alloc (.cells #[.int .i64 s.al,.int .i64 s.st,.slice A n c] 39)):=(hx0.dr.trans hd1).alloc _
 replace hs1:=hs1.ext hx2
 replace hr1:=hr1.ext hx2
 replace z1:=(z1.dr hd1 (by omega)).ext hx2
 replace z2:=(z2.dr hd1 (by omega)).ext hx2
 go_upto_region 2 with fail
 generalize hGs:w1.heap.size=Gs at *
 generalize w1.alloc (.cells #[.int .i64 s.al,.int .i64 s.st,.slice A n c] 39)=w2 at *
 clear hx2
 have HP:=za (show Calls Tryd.prog 57 #[.pointer (some ⟨R,0,none⟩),.int .i64 s.al] w2 (zcb R (M+30000+600) zct w2) from by rw [Hal.out];exact zdr hr1 (by omega) ha)
 have cs:=bs.cell
 go_wp2_with fail
 refine HP.out.mono ?_
 rintro e w3 ⟨p,B,m,d,B',m',d',rfl,ho3,hb3,hr3,hd3⟩
 have hw3:=hd3.size
 have hx4:=(Ext.refl w3).alloc (.cells #[.int .i64 p.al,.slice B m d,.slice B' m' d'] 30)
 have bp:=Blk.new w3 30 #[.int .i64 p.al,.slice B m d,.slice B' m' d']
 have ht2:Duo w (w3.alloc (.cells #[.int .i64 p.al,.slice B m d,.slice B' m' d'] 30)) R (M+31000) 20000 16 w.heap.size (w.heap.size+1) Gs w3.heap.size s A n c p B m d B' m' d':=
  ⟨⟨(hs1.dr hd3).ext hx4,in_sysZ _ _,(ho3.ext hx4).less (by omega),⟨hn1,by omega,by omega⟩,za (BdA.of hb3.out),(hr3.ext hx4).more (by omega),(hd2.trans hd3).ext hx4,hRl⟩,(z1.dr hd3 (by omega)).ext hx4,(z2.dr hd3 (by omega)).ext hx4,(bs.dr hd3 (by omega)).ext hx4,bp,by omega,by omega⟩
 clear hs1 hr1 z1 z2 bs bp ho3 hx4 hd2 cs HP Hal
 go_upto_region 3 with fail
 have hG2:w.heap.size+2≤Gs∧Gs<w3.heap.size:=by omega
 generalize hGp:w3.heap.size=Gp at *
 generalize w3.alloc (.cells #[.int .i64 p.al,.slice B m d,.slice B' m' d'] 30)=w4 at *
 clear hw1 hw3 hd1 hd3 hr3 hn1 hs2 hGs hGp hsz
 go_wp2_with fail
 refine (zg ht2.at_.rd (by omega)).mono ?_
 rintro e w5 ⟨y,rfl,-,-,hr5,hd5⟩
 have ht1:=ht2.drawn hd5 hr5
 clear ht2
 go_upto_block 0 with fail
 go_cut [] (fun wx=>∃ (s:Sys) (A:Option Addr) (n c:Nat) (p:Aut) (B:Option Addr) (m d:Nat) (B':Option Addr) (m' d':Nat),Duo w wx R (M+40000) 30000 60 w.heap.size (w.heap.size+1) Gs Gp s A n c p B m d B' m' d')
 case first =>
  have hcases:y=0∨y=1∨y=2∨y=3∨4≤y:=by omega
  rcases hcases with hy|hy|hy|hy|hy
  ·subst hy
   have hy0:True:=trivial
   have cG:=ht1.bs.cell
   go_wp2_with fail
   refine (zU (L:=20000) ht1.at_.rd (by omega) ht1.at_.is ht1.at_.ns.1.1 (by omega)).mono ?_
   rintro e v1 ⟨s1,A1,n1,d1,rfl,hs1,hn1,hr1,hd1⟩
   have ht2:=ht1.drawn hd1 hr1
   clear cG
   go_wp2_with fail
   refine (zU (L:=20000+1) ht2.at_.rd (by omega) hs1 hn1.1 (by omega)).mono ?_
   rintro e v2 ⟨s2,A2,n2,d2,rfl,hs2,hn2,hr2,hd2⟩
   have ht3:=ht2.drawn hd2 hr2
   go_wp2_with fail
   refine (zU (L:=20000+2) ht3.at_.rd (by omega) hs2 hn2.1 (by omega)).mono ?_
   rintro e v3 ⟨s3,A3,n3,d3,rfl,hs3,hn3,hr3,hd3⟩
   have ht4:=(ht3.drawn hd3 hr3).more (N:=M+40000) (J:=30000) (H:=60) (by omega) (by omega) (by omega)
   exact yV05a6
  ·subst hy
   have hy0:True:=trivial
   have cG:=ht1.bp.cell
   go_wp2_with fail
   refine (zby ht1.at_.rd (by omega) ht1.at_.ip ht1.at_.bd.out (by omega)).mono ?_
   rintro e v1 ⟨b1,A1,n1,d1,B1,m1,e1,rfl,ho1,hb1,hr1,hd1⟩
   have ht2:=ht1.drawn hd1 hr1
   have hq1:=ht1.at_.rd.lt
   have hq2:=ht2.at_.rd.lt
   clear cG
   go_wp2_with fail
   refine (zby hr1 (by omega) (ho1.less (by omega)) hb1.out (by omega)).mono ?_
   rintro e v2 ⟨b2,A2,n2,d2,B2,m2,e2,rfl,ho2,hb2,hr2,hd2⟩
   have ht3:=ht2.drawn hd2 hr2
   have hq3:=ht3.at_.rd.lt
   go_wp2_with fail
   refine (zby hr2 (by omega) (ho2.less (by omega)) hb2.out (by omega)).mono ?_
   rintro e v3 ⟨b3,A3,n3,d3,B3,m3,e3,rfl,ho3,hb3,hr3,hd3⟩
   have ht4:=(ht3.drawn hd3 hr3).more (N:=M+40000) (J:=30000) (H:=60) (by omega) (by omega) (by omega)
   exact yV05a5
  ·subst hy
   have hy0:True:=trivial
   go_wp2_with fail
   refine (zdP ht1.at_.rd (by omega)).mono ?_
   rintro e v3 ⟨s3,A3,n3,d3,rfl,hs3,-,hn3,hn4,hr3,hd3⟩
   have ht4:=(ht1.drawn hd3 hr3).more (N:=M+40000) (J:=30000) (H:=60) (by omega) (by omega) (by omega)
   exact yV05a6
  ·subst hy
   have hy0:True:=trivial
   go_wp2_with fail
   refine (spec_l3Big ht1.at_.rd (by omega)).mono ?_
   rintro e v3 ⟨b3,A3,n3,d3,B3,m3,e3,rfl,ho3,hb3,hr3,hd3⟩
   have hq1:=ht1.at_.rd.lt
   have ht4:=(ht1.drawn hd3 hr3).more (N:=M+40000) (J:=30000) (H:=60) (by omega) (by omega) (by omega)
   exact yV05a5
  ·have h0:((y:Int)==0)=false:=by simp;omega
   have h1:((y:Int)==1)=false:=by simp;omega
   have h2:((y:Int)==2)=false:=by simp;omega
   have h3:((y:Int)==3)=false:=by simp;omega
   go_wp2_with fail
   go_meet
   exact⟨_,_,_,_,_,_,_,_,_,_,_,ht1.more (by omega) (by omega) (by omega)⟩
 case rest =>
  clear ht1
  obtain⟨s,A,n,c,p,B,m,d,B',m',d',ht⟩:=hcut
  obtain⟨wE,hwE⟩:∃ wE,wE=wc:=⟨_,rfl⟩
  subst hwE
  have cS:∀ W,Frm (fun k=>k=w.heap.size) wE W→∀ q,W.cell? ⟨Gs,q,none⟩=#[Value.int .i64 s.al,.int .i64 s.st,.slice A n c][q]?:=fun W hW=>(ht.bs.frm hW (by omega)).cell
  have cP:∀ W,Frm (fun k=>k=w.heap.size) wE W→∀ q,W.cell? ⟨Gp,q,none⟩=#[Value.int .i64 p.al,.slice B m d,.slice B' m' d'][q]?:=fun W hW=>(ht.bp.frm hW (by omega)).cell
  have hS0:Frm (fun k=>k=w.heap.size) wE wE.drew:=(Ext.refl wE).drew.toFrm
  have ht5:=ht.ext (Ext.refl wE).drew
  go_wp2_with fail
  refine tR (fun X=>Frm (fun k=>k=w.heap.size) wE X) [3] (Ord.of [0,1,2,3]) ?_
  refine tQ ?_
  generalize hwD:wE.drew=wD at *
  clear hwD
  have ha5:=ht5.at_
  have zs:=ht5.zs
  have zp:=ht5.zp
  have cs:=zs.cell
  have fs:=zs.frozen
  clear ht5 ht
  refine zc fun K hK=>?_;go_simp
  have q1:=zbD zs rfl (.int .i64 s.al) (.int .i64 s.st) (.slice A n c)
  have e1:=zbE wD w.heap.size (.int .i64 s.al) (.int .i64 s.st) (.slice A n c)
  replace ha5:=ha5.far zs e1 (Nat.le_refl _) (by decide) (by decide)
  replace zp:=zp.frm e1 (by omega)
  have hS8:=hS0.trans e1
  refine hK.out _ _ hS8 ?_
  refine pT ?_
  clear cs fs zs e1
  generalize ((wD.setCell ⟨w.heap.size,0,none⟩ (.int .i64 s.al)).setCell ⟨w.heap.size,1,none⟩ (.int .i64 s.st)).setCell ⟨w.heap.size,2,none⟩ (.slice A n c)=wA at *
  have cp:=zp.cell
  have fp:=zp.frozen
  refine zi fun K hK=>?_
  go_simp
  have q2:=zbD zp rfl (.int .i64 p.al) (.slice B m d) (.slice B' m' d')
  have e2:=zbE wA (w.heap.size+1) (.int .i64 p.al) (.slice B m d) (.slice B' m' d')
  replace ha5:=ha5.far zp e2 (by omega) (by decide) (by decide)
  replace q1:=q1.frm e2 (by omega)
  refine hK.out _ _ ?_
  refine zr ?_
  clear cp fp zp e2 hS8 hS0 cS cP
  generalize ((wA.setCell ⟨w.heap.size+1,0,none⟩ (.int .i64 p.al)).setCell ⟨w.heap.size+1,1,none⟩ (.slice B m d)).setCell ⟨w.heap.size+1,2,none⟩ (.slice B' m' d')=wB at *
  have ha':=za ha5
  clear ha5
  go_wp2_with fail
  have c1:=q1.cell
  have cc2:=q2.cell
  exact bodyPost_ret (v:=.tuple #[.agg #[.int .i64 s.al,.int .i64 s.st,.slice A n c],.agg #[.int .i64 p.al,.slice B m d,.slice B' m' d']]) (by simp [results,Tryd.results25,go_sem,c1,cc2]) rfl ⟨s,A,n,c,p,B,m,d,B',m',d',rfl,ha'.out⟩
end Go.Proofs.YtfcjhpodichpjaaDoor
