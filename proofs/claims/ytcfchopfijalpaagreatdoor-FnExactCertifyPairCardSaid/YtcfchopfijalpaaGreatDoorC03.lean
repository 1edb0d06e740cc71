/- impl.newPart -/
import Derived.Deep.DeepCutAuto
import Derived.Test.YtcfchopfijalpaaGreatDoorC02
import Derived.Test.YtcfchopfijalpaaGreatDoorC01
import Derived.Deep.CutBlock
import Derived.Shelf.RegionOpenPlain
import Derived.Deep.LoopGhost
import Derived.Sort.WalkB12
import Derived.Lib.SlicesMore
import Derived.Laws.BytesArg
set_option maxHeartbeats 4000000
set_option maxRecDepth 100000
namespace Go.Proofs.YtcfchopfijalpaaGreatDoor
open Go Go.RowKit
theorem info_pmov:(Tryz.prog.info? 240).map (fun i=>(i.zero,i.size,i.bytes))=some (some (.pointer none),1,8):=by kernel_rfl
def ptrs (bs:List Nat):List Value:=bs.map fun b=>.pointer (some ⟨b,0,none⟩)
def MovL (w:World) (bs:List Nat) (ss:List Sys):Prop:=bs.length=ss.length∧∀ (i b:Nat) (s:Sys),bs[i]?=some b→ss[i]?=some s→MovB w b s.edges
theorem MovL.ext {w w':World} {bs:List Nat} {ss:List Sys}(h:MovL w bs ss)(hx:Ext w w'):MovL w' bs ss:=⟨h.1,fun i b s hb hs=>(h.2 i b s hb hs).ext hx⟩
theorem MovL.snoc {w w':World} {bs:List Nat} {ss:List Sys} {b:Nat} {s:Sys}(h:MovL w bs ss)(hx:Ext w w')(hb:MovB w' b s.edges):MovL w' (bs++[b]) (ss++[s]):=by
 have hl:=h.1
 refine⟨by simp [hl],fun i b' s' hb' hs'=>?_⟩
 rcases Nat.lt_trichotomy i bs.length with hi|hi|hi
 ·rw [List.getElem?_append_left hi] at hb'
  rw [List.getElem?_append_left (by omega)] at hs'
  exact (h.2 i b' s' hb' hs').ext hx
 ·rw [List.getElem?_append_right (by omega),hi,Nat.sub_self] at hb'
  rw [List.getElem?_append_right (by omega),hi,hl,Nat.sub_self] at hs'
  simp at hb' hs'
  subst hb';subst hs'
  exact hb
 ·rw [List.getElem?_eq_none (by simp;omega)] at hb'
  cases hb'
theorem MovL.frm {S:Nat→Prop} {w w':World} {bs:List Nat} {ss:List Sys}(h:MovL w bs ss)(hx:Frm S w w')(hS:∀ (b:Nat) (cs:Array Value),Blk w b 282 cs→¬ S b):MovL w' bs ss:=
 ⟨h.1,fun i b s hb hs=>by
  obtain⟨cs,hB,hc⟩:=h.2 i b s hb hs
  exact⟨cs,hB.frm hx (hS b cs hB),hc⟩⟩
structure PtAt (w:World) (lo hi:Nat) (A:Option Addr) (k lo' hi':Nat) (M:Option Addr) (ss:List Sys):Prop where
 sys:zha w lo hi A k ss
 mov:∃ bs,Reads w lo' hi' 1 M k (ptrs bs)∧MovL w bs ss
theorem PtAt.ext {w w':World} {lo hi k lo' hi':Nat} {A M:Option Addr} {ss:List Sys}(h:PtAt w lo hi A k lo' hi' M ss)(hx:Ext w w'):PtAt w' lo hi A k lo' hi' M ss:=by
 obtain⟨bs,hr,hb⟩:=h.mov
 exact⟨h.sys.ext hx,bs,hr.ext hx,hb.ext hx⟩
structure Grp (w0 W:World) (G:Nat) (a v:Value) (bs:List Nat) (ss:List Sys):Prop where
 blk:Blk W G 204 #[a,v]
 own:W.ownsRow w0.heap.size 240 1 v bs.length (ptrs bs)
 mov:MovL W bs ss
 ext:Ext w0 W
 hG:w0.heap.size≤G
theorem Grp.ext_ {w0 W W':World} {G:Nat} {a v:Value} {bs:List Nat} {ss:List Sys}(h:Grp w0 W G a v bs ss)(hb:Ext W W'):Grp w0 W' G a v bs ss:=⟨h.blk.ext hb,zh h.own hb,h.mov.ext hb,h.ext.trans hb,h.hG⟩
theorem zF {w:World} {base:Nat} {e t:TypeId} {size n G:Nat} {v:Value} {xs:List Value} {cs:Array Value}(h:w.ownsRow base e size v n xs)(hB:Blk w G t cs)(hne:e≠t) {b:Nat}(hv:v.ownBlock=some b):b≠G:=by
 rintro rfl
 rcases h.2 with ⟨rfl,_⟩|⟨g,cap,cur,rfl,_,hh,_⟩
 ·simp [Value.ownBlock] at hv
 ·have hg:g=b:=by simpa [Value.ownBlock] using hv
  subst hg
  unfold Blk at hB
  rw [hh] at hB
  injection hB with hB
  injection hB with _ ht
  exact absurd ht hne
theorem Grp.push {w0 W W':World} {G:Nat} {a v:Value} {bs:List Nat} {ss:List Sys} {b g cap:Nat} {s:Sys}(h:Grp w0 W G a v bs ss)(hb:MovB W b s.edges)
  (ziJ:W'.ownsRow w0.heap.size 240 1 (.slice (some ⟨g,0,none⟩) (bs.length+1) cap) (bs.length+1) (ptrs bs++[.pointer (some ⟨b,0,none⟩)]))
  (hg:W.grownBy W' v.ownBlock) (hat:v.ownBlock=some g∨g=W.heap.size+1) :
  Hid (W'.cell? ⟨G,1,none⟩=some v)∧W'.frozen? ⟨G,1,none⟩=false∧Grp w0 (W'.setCell ⟨G,1,none⟩ (.slice (some ⟨g,0,none⟩) (bs.length+1) cap)) G a (.slice (some ⟨g,0,none⟩) (bs.length+1) cap) (bs++[b]) (ss++[s]):=by
 have hB:Blk W' G 204 #[a,v]:=(hg.block G h.blk.lt (fun e=>zF h.own h.blk (by decide) e.symm rfl)).trans h.blk
 have hgG:g≠G:=by
  rcases hat with h1|h1
  ·exact zF h.own h.blk (by decide) h1
  ·have:=h.blk.lt;omega
 have hx:Ext w0 W':=h.ext.grown hg (fun k hk=>(h.own.lt k hk).1)
 have hset:=Frm.setCell W' G 1 (.slice (some ⟨g,0,none⟩) (bs.length+1) cap)
 have hfr:Frm (fun k=>v.ownBlock=some k) W W':=Frm.of_grown hg
 have hm1:MovL W' (bs++[b]) (ss++[s]):=(h.mov.snoc (Ext.refl W) hb).frm hfr (fun c cs hc hS=>zF h.own hc (by decide) hS rfl)
 refine⟨hB.cell 1,hB.frozen 1,⟨by simpa using hB.set_ 1 _,?_,hm1.frm hset (fun c cs hc hS=>?_),hx.setCell (p:=⟨G,1,none⟩) h.hG _,h.hG⟩⟩
 ·rw [List.length_append,List.length_singleton,show ptrs (bs++[b])=ptrs bs++[.pointer (some ⟨b,0,none⟩)] by simp [ptrs]]
  exact zg ziJ hset (fun c hv hS=>by
   have:g=c:=by simpa [Value.ownBlock] using hv
   omega)
 ·subst hS
  unfold Blk at hc hB
  rw [hc] at hB
  injection hB with hB
  injection hB with _ ht
  exact absurd ht (by decide)
theorem zeU {lo hi:Nat} {A:Option Addr} {n c:Nat} {ss:List Sys} {w:World}(h:zha w lo hi A n ss)(hf:∀ s∈ss,Few 16 s.edges)(hn4:n≤1000) :
  Calls Tryz.prog 178 #[.slice A n c] w fun e w'=>∃ M d,e=.returned (.agg #[.slice A n c,.slice M n d])∧PtAt w' lo hi A n w.heap.size w'.heap.size M ss∧Ext w w':=by
 have HS:=za (fun W (hW:Ext w W)=>h.ext hW)
 have hL:=za h.1
 have Hf:=za hf
 have hlen:=h.len
 clear hf
 go_enter Tryz.func178,Tryz.ntmps178
 obtain⟨bz,bG⟩:=zE (Ext.refl ((w.alloc (.cells #[.slice none 0 0,.slice none 0 0] 204)).alloc (.cells #[.slice A n c,.slice none 0 0] 204)))
 have hw2:Ext w ((w.alloc (.cells #[.slice none 0 0,.slice none 0 0] 204)).alloc (.cells #[.slice A n c,.slice none 0 0] 204)):=((Ext.refl w).alloc _).alloc _
 go_upto_region 2 with fail
 have hsz1:w.heap.size≤(w.alloc (.cells #[.slice none 0 0,.slice none 0 0] 204)).heap.size:=by simp
 have hsz2:(w.alloc (.cells #[.slice none 0 0,.slice none 0 0] 204)).heap.size=w.heap.size+1:=by simp
 have hgr:Grp (w.alloc (.cells #[.slice none 0 0,.slice none 0 0] 204)) ((w.alloc (.cells #[.slice none 0 0,.slice none 0 0] 204)).alloc (.cells #[.slice A n c,.slice none 0 0] 204)) (w.heap.size+1) (.slice A n c) (.slice none 0 0) [] []:=
  ⟨bG,World.ownsRow_nil _ _ _ _,⟨rfl,fun i b s hb=>by simp at hb⟩,(Ext.refl _).alloc _,by rw [hsz2];exact Nat.le_refl _⟩
 clear bG
 generalize (w.alloc (.cells #[.slice none 0 0,.slice none 0 0] 204)).alloc (.cells #[.slice A n c,.slice none 0 0] 204)=w2 at *
 generalize w.alloc (.cells #[.slice none 0 0,.slice none 0 0] 204)=w1 at *
 go_wp2_with fail
 go_loopw [10] (fun i wr=>∃ (k:Nat) (v:Value) (bs:List Nat),k≤n∧i=.int .i64 k∧Grp w1 wr (w.heap.size+1) (.slice A n c) v bs (ss.take k)∧Hid (bs.length=k)∧Blk wr w.heap.size 204 #[.slice none 0 0,.slice none 0 0]∧Ext w wr) (fun i _=>n - (intOf i).toNat)
 case atStart=>exact⟨0,_,[],Nat.zero_le _,rfl,by simpa using hgr,za rfl,bz,hw2⟩
 case round =>
  clear hgr bz hw2 w2
  obtain⟨k,v,bs,hk,rfl,hgr,hbl,bz,hw⟩:=hrel
  by_cases hlt:k<n
  ·obtain⟨g,o,s,B,m,c',rfl,_,_,hs,c0,c1,c2,hsx⟩:=(HS.out wr hw).sys hlt
   have hfs:=za (Hf.out s (List.mem_of_getElem? hs.out))
   have Htk:=za (show ss.take (k+1)=ss.take k++[s] by rw [List.take_add_one,hs.out];rfl)
   have hx3:=(Ext.refl wr).alloc (.cells #[.int .i64 s.al,.int .i64 s.st,.slice B m c'] 38)
   have hbx:=Blk.new wr 38 #[.int .i64 s.al,.int .i64 s.st,.slice B m c']
   have hgr3:=hgr.ext_ hx3
   have hw3:=hw.trans hx3
   have bz3:=bz.ext hx3
   have hsx3:=hsx.ext hx3
   clear hgr
   go_upto_region 5 with fail
   clear c0 c1 c2
   generalize wr.alloc (.cells #[.int .i64 s.al,.int .i64 s.st,.slice B m c'] 38)=w3 at *
   have c5:=hbx.cells
   have cG:∀ W,Ext w3 W→∀ q,W.cell? ⟨w.heap.size+1,q,none⟩=#[Value.slice (some ⟨g,o,none⟩) n c,v][q]?:=fun W hW=>(hgr3.blk.ext hW).cell
   have hww:=Ext.refl w3
   refine uR (fun X=>Ext w3 X) [5,7] (zu.of [0,1,2,3,4,5,6,7]) ?_
   refine uQ ?_
   refine ze fun K hK=>?_;go_simp
   refine (zdE (hsx3.ext hww.drew) hfs.out).mono ?_
   rintro e w4 ⟨b,rfl,hb1,hmv,hx4⟩
   have hww4:=hww.drew.trans hx4
   refine hK.out _ _ hww4 ?_
   refine pT ?_
   refine uQ ?_
   refine ze fun K hK=>?_;go_simp
   refine hK.out _ _ (hww4.alloc _) ?_
   refine pT ?_
   refine zb fun K hK=>?_
   refine zbN w1 w4 _ _ _ rfl 240 _ 1 8 Tryz.underlying202 info_pmov rfl (by decide) v bs.length (ptrs bs) _ _ rfl rfl (hgr3.ext.trans hww4).size (zh hgr3.own hww4) rfl (by simp [Value.oneCell']) (by unfold maxLen;have:=hbl.out;omega) (by have:=hbl.out;omega) ?_
   intro g5 cap5 w5 ziV hg5 hat5 hlt5
   refine hK.out _ _ ?_
   refine pT ?_
   refine uQ ?_
   obtain⟨p1,p2,p3⟩:=(hgr3.ext_ hww4).push (s:=s) hmv (W':=w5) ziV hg5 hat5
   have p1':=p1.out
   have bz5:Blk w5 w.heap.size 204 #[.slice none 0 0,.slice none 0 0]:=(hg5.block _ (bz3.ext hww4).lt (fun e=>zF (zh hgr3.own hww4) (bz3.ext hww4) (by decide) e.symm rfl)).trans (bz3.ext hww4)
   have hw5:Ext w w5:=(hw3.trans hww4).grown hg5 (fun q hq=>by have:=(zh hgr3.own hww4).lt q hq;omega)
   have bz6:=bz5.far (p:=⟨w.heap.size+1,1,none⟩) (by simp) (.slice (some ⟨g5,0,none⟩) (bs.length+1) cap5)
   have hw6:=hw5.setCell (p:=⟨w.heap.size+1,1,none⟩) (by simp) (.slice (some ⟨g5,0,none⟩) (bs.length+1) cap5)
   refine zb fun K hK=>?_
   go_simp
   refine hK.out _ _ ?_
   refine zf ?_
   go_wp2_with fail
   go_roundw
   case rel=>exact⟨k+1,_,bs++[b],by omega,by go_num,by rw [Htk.out];exact p3,za (by rw [List.length_append,hbl.out];rfl),bz6,hw6⟩
   case measure=>simp [intOf];omega
  ·obtain rfl:n=k:=by omega
   obtain⟨M,d,rfl⟩:∃ M d,v=.slice M n d:=by
    have ho:=hgr.own
    rw [hbl.out] at ho
    exact zi ho
   have cG:=hgr.blk.cell
   have cZ:=bz.cell
   have fZ:=bz.frozen
   have hfl:Frm (fun k=>k=w.heap.size) wr ((wr.setCell ⟨w.heap.size,0,none⟩ (.slice A n c)).setCell ⟨w.heap.size,1,none⟩ (.slice M n d)):=(Frm.setCell wr _ 0 _).trans (Frm.setCell _ _ 1 _)
   have hbf:Blk ((wr.setCell ⟨w.heap.size,0,none⟩ (.slice A n c)).setCell ⟨w.heap.size,1,none⟩ (.slice M n d)) w.heap.size 204 #[.slice A n c,.slice M n d]:=by simpa using (bz.set_ 0 (.slice A n c)).set_ 1 (.slice M n d)
   have hxf:=hw.frm hfl (fun k hk e=>by omega)
   have ziM:=za (show ∃ M' d',Ending.returned (.agg #[.slice A n c,.slice M n d])=.returned (.agg #[.slice A n c,.slice M' n d'])∧PtAt ((wr.setCell ⟨w.heap.size,0,none⟩ (.slice A n c)).setCell ⟨w.heap.size,1,none⟩ (.slice M n d)) lo hi A n w.heap.size ((wr.setCell ⟨w.heap.size,0,none⟩ (.slice A n c)).setCell ⟨w.heap.size,1,none⟩ (.slice M n d)).heap.size M' ss∧Ext w ((wr.setCell ⟨w.heap.size,0,none⟩ (.slice A n c)).setCell ⟨w.heap.size,1,none⟩ (.slice M n d)) from by
    refine⟨M,d,rfl,⟨HS.out _ hxf,bs,?_,?_⟩,hxf⟩
    ·have ho:=zcn hgr.own hfl (fun b h1 e=>by omega)
     rw [hbl.out] at ho
     exact (Reads.of_own ho).more (by omega) (Nat.le_refl _)
    ·have hm:=hgr.mov
     rw [List.take_of_length_le (by have:=hL.out;omega)] at hm
     exact hm.frm hfl (fun b cs hc hS=>by
      subst hS
      unfold Blk at hc bz
      rw [hc] at bz
      injection bz with bz
      injection bz with _ ht
      exact absurd ht (by decide)))
   go_wp2_with fail
   generalize (wr.setCell ⟨w.heap.size,0,none⟩ (.slice A n c)).setCell ⟨w.heap.size,1,none⟩ (.slice M n d)=wf at *
   have cf:=hbf.cell
   exact bodyPost_ret (v:=.agg #[.slice A n c,.slice M n d]) (by simp [results,Tryz.results178,go_sem,cf]) rfl ziM.out
theorem zdG (l:List Nat) (x:Nat):zS (l++[x])=zS l++[.int .i64 (x:Nat)]:=by simp [zS]
theorem spec_l4Sizes {PA AA:Option Addr} {pn pc an ac:Nat} {sv:Value} {L K G:Int} {ss:List Sys} {us:List Aut} {w:World}(h:zeG w PA pn AA an ss us)(hok:zdl ss us) :
  Calls Tryz.prog 212 #[.agg #[.slice PA pn pc,.slice AA an ac,sv,.int .i64 L,.int .i64 K,.int .i64 G]] w (zbB w (szs ss us)):=by
 have HN:=za (fun W (hW:Ext w W)=>h.ext hW)
 have hpn:Hid (pn=ss.length):=by obtain⟨_,_,h1⟩:=h.sys;exact h1.1
 have han:Hid (an=us.length):=by obtain⟨_,_,h1⟩:=h.aut;exact h1.1
 have hp3:pn≤3:=by rw [hpn.out];exact hok.few
 have ha2:an≤2:=by rw [han.out];exact hok.few'
 have Hok:=za hok
 clear h hok
 go_enter Tryz.func212,Tryz.ntmps212
 have hw1:Ext w (w.alloc (.cells #[.slice PA pn pc,.slice AA an ac,sv,.int .i64 L,.int .i64 K,.int .i64 G] 168)):=(Ext.refl w).alloc _
 have hb1:=Blk.new w 168 #[.slice PA pn pc,.slice AA an ac,sv,.int .i64 L,.int .i64 K,.int .i64 G]
 go_wp2
 go_loopw [3,4] (fun v i wr=>∃ k:Nat,k≤pn∧i=.int .i64 k∧wr.ownsRow w.heap.size 3 1 v k (zS ((ss.take k).map fun s=>s.st.toNat))∧Ext w wr∧Blk wr w.heap.size 168 #[.slice PA pn pc,.slice AA an ac,sv,.int .i64 L,.int .i64 K,.int .i64 G])
  (fun _ i _=>pn - (intOf i).toNat)
 case atStart=>exact⟨0,Nat.zero_le _,rfl,(by have h0:=World.ownsRow_lit (base:=w.heap.size) (e:=3) (size:=1) (w.alloc (.cells #[.slice PA pn pc,.slice AA an ac,sv,.int .i64 L,.int .i64 K,.int .i64 G] 168)) #[] 0 (by simp) (by unfold maxLen;omega) rfl;simpa [zS] using h0),hw1.alloc _,hb1.ext ((Ext.refl _).alloc _)⟩
 case round =>
  obtain⟨k,hk,rfl,ziJ,ziL,hbx⟩:=hrel
  have c0:=hbx.cell
  by_cases hlt:k<pn
  ·obtain⟨lo,hi,hsl⟩:=(HN.out wr ziL).sys
   obtain⟨b,o,s,B,q,d,rfl,hlo,hhi,hs,e0,e1,e2,hsy⟩:=hsl.sys hlt
   have hss:=zbQ (Hok.out.sys s (List.mem_of_getElem? hs.out))
   obtain⟨p,hp⟩:∃ p:Nat,Hid (s.st=p):=⟨s.st.toNat,by have:=hss.1;unfold Hid;omega⟩
   rw [hp.out] at e1
   have Htk:=za (show (ss.take (k+1)).map (fun s=>s.st.toNat)=(ss.take k).map (fun s=>s.st.toNat)++[p] by rw [List.take_add_one,hs.out];simp [hp.out])
   clear hss hsl hsy
   go_wp2_with (at_builtin;refine zak w wr rfl _ _ _ rfl 3 _ 1 8 Tryz.underlying128 zah rfl (by decide) u3 _ _ _ _ rfl rfl ziL ziJ rfl (zaR _) (by unfold maxLen;omega) (by omega) ?_;intro v' w1 hext1 ziS hg1 hat1)
   have hbx1:Blk w1 w.heap.size 168 #[.slice (some ⟨b,o,none⟩) pn pc,.slice AA an ac,sv,.int .i64 L,.int .i64 K,.int .i64 G]:=(hg1.block _ hbx.lt (fun e=>zF ziJ hbx (by decide) e.symm rfl)).trans hbx
   go_roundw
   case rel=>exact⟨k+1,by omega,by go_num,by rw [Htk.out,zdG];exact ziS,hext1,hbx1⟩
   case measure=>simp [intOf];omega
  ·obtain rfl:pn=k:=by omega
   have hown0:wr.ownsRow w.heap.size 3 1 u3 pn (zS (ss.map fun s=>s.st.toNat)):=by rw [List.take_of_length_le (by have:=hpn.out;omega)] at ziJ;exact ziJ
   clear ziJ
   go_wp2
   go_loopw [3,5] (fun v i wr=>∃ k:Nat,k≤an∧i=.int .i64 k∧wr.ownsRow w.heap.size 3 1 v (pn+k) (zS (ss.map (fun s=>s.st.toNat)++(us.take k).map fun a=>a.next.length))∧Ext w wr∧Blk wr w.heap.size 168 #[.slice PA pn pc,.slice AA an ac,sv,.int .i64 L,.int .i64 K,.int .i64 G])
    (fun _ i _=>an - (intOf i).toNat)
   case atStart=>exact⟨0,Nat.zero_le _,rfl,by simpa using hown0,ziL,hbx⟩
   case round =>
    clear hown0 ziL hbx c0
    obtain⟨k,hk,rfl,ziJ,ziL,hbx⟩:=hrel
    have c0:=hbx.cell
    by_cases hlt:k<an
    ·obtain⟨lo,hi,hsl⟩:=(HN.out wr ziL).aut
     obtain⟨b,o,a,B,m,c,B',m',c',rfl,hs,e0,e1,e2,hat⟩:=hsl.aut hlt
     have hm:=za hat.n1
     have hm12:m≤12:=by have:=(zl (Hok.out.aut a (List.mem_of_getElem? hs.out))).2.1;rw [← hm.out] at this;omega
     have Htk:=za (show ss.map (fun s=>s.st.toNat)++(us.take (k+1)).map (fun a=>a.next.length)=(ss.map (fun s=>s.st.toNat)++(us.take k).map (fun a=>a.next.length))++[m] by rw [List.take_add_one,hs.out];simp [hm.out])
     clear hsl hat
     go_wp2_with (at_builtin;refine zak w wr rfl _ _ _ rfl 3 _ 1 8 Tryz.underlying128 zah rfl (by decide) u3 _ _ _ _ rfl rfl ziL ziJ rfl (zaR _) (by unfold maxLen;omega) (by omega) ?_;intro v' w1 hext1 ziS hg1 hat1)
     have hbx1:Blk w1 w.heap.size 168 #[.slice PA pn pc,.slice (some ⟨b,o,none⟩) an ac,sv,.int .i64 L,.int .i64 K,.int .i64 G]:=(hg1.block _ hbx.lt (fun e=>zF ziJ hbx (by decide) e.symm rfl)).trans hbx
     go_roundw
     case rel=>exact⟨k+1,by omega,by go_num,by rw [Htk.out,zdG];exact ziS,hext1,hbx1⟩
     case measure=>simp [intOf];omega
    ·obtain rfl:an=k:=by omega
     have hown0:wr.ownsRow w.heap.size 3 1 u3 (pn+an) (zS (szs ss us)):=by rw [List.take_of_length_le (by have:=han.out;omega)] at ziJ;exact ziJ
     have hle:pn+an=(szs ss us).length:=by have:=zcS hown0;simp [zS] at this;omega
     rw [hle] at hown0
     obtain⟨A5,c5,rfl⟩:=zi hown0
     clear ziJ
     go_wp2
     go_ret
     exact⟨_,_,rfl,hown0,ziL⟩
theorem ziB {A B:Option Addr} {c d:Nat} {lo hi lo' hi':Nat} {sz st:List Nat} {w:World}(h:Lst zbb w lo hi A sz)(h':Lst zbb w lo' hi' B st)(hl:sz.length=st.length)(hb:∀ k,k≤sz.length→encF 0 (sz.take k) (st.take k)≤1048576)(hz:∀ x∈sz,x≤16)(hs:∀ x∈st,x≤16) :
  Calls Tryz.prog 217 #[.slice A sz.length c,.slice B st.length d] w fun e w'=>e=.returned (.int .i64 (encF 0 sz st:Nat))∧Ext w w':=by
 have HA:=za (fun W (hW:Ext w W)=>h.ext zbb.ok hW)
 have HB:=za (fun W (hW:Ext w W)=>h'.ext zbb.ok hW)
 have Hb:=za hb
 have Hz:=za hz
 have Hs:=za hs
 have hlen:=h.len
 have hn:∃ n:Nat,Hid (sz.length=n)∧Hid (st.length=n):=⟨sz.length,rfl,hl.symm⟩
 obtain⟨n,hn1,hn2⟩:=hn
 rw [hn1.out] at hlen
 rw [hn1.out,hn2.out]
 clear hb hz hs hl h h'
 go_enter Tryz.func217,Tryz.ntmps217
 go_wp2
 go_loopw [5,6] (fun v i wr=>∃ k y:Nat,k≤n∧i=.int .i64 k∧v=.int .i64 y∧Hid (y=encF 0 (sz.take k) (st.take k))∧y≤1048576∧Ext w wr) (fun _ i _=>n - (intOf i).toNat)
 case atStart=>exact⟨0,0,Nat.zero_le _,rfl,rfl,rfl,by omega,Ext.refl _⟩
 case round =>
  obtain⟨k,y,hk,rfl,rfl,hy,hym,hx⟩:=hrel
  by_cases hlt:k<n
  ·obtain⟨b,o,s,rfl,_,_,hs,hc⟩:=(HA.out wr hx).num (show k<sz.length by rw [hn1.out];exact hlt)
   obtain⟨b',o',t,rfl,_,_,ht,hc'⟩:=(HB.out wr hx).num (show k<st.length by rw [hn2.out];exact hlt)
   have hs16:=Hz.out s (List.mem_of_getElem? hs.out)
   have ht16:=Hs.out t (List.mem_of_getElem? ht.out)
   have c1:∀ W,Ext wr W→W.cell? ⟨b,o+k,none⟩=some (.int .i64 (s:Nat)):=fun W hW=>hW.cell_some hc
   have c2:∀ W,Ext wr W→W.cell? ⟨b',o'+k,none⟩=some (.int .i64 (t:Nat)):=fun W hW=>hW.cell_some hc'
   have hst:=za (show encF 0 (sz.take (k+1)) (st.take (k+1))=y*s+t by
    have key:∀ (k acc:Nat) (sz st:List Nat),sz[k]?=some s→st[k]?=some t→encF acc (sz.take (k+1)) (st.take (k+1))=encF acc (sz.take k) (st.take k)*s+t:=by
     intro k
     induction k with
     |zero =>
      intro acc sz st h1 h2
      cases sz<;>cases st<;>simp at h1 h2
      subst h1;subst h2
      simp [encF]
     |succ k ih =>
      intro acc sz st h1 h2
      cases sz<;>cases st<;>simp at h1 h2
      simpa [encF] using ih _ _ _ h1 h2
    rw [key k 0 sz st hs.out ht.out,hy.out])
   have hbd:=Hb.out (k+1) (by rw [hn1.out];omega)
   rw [hst.out] at hbd
   have hmul:y*s≤1048576:=by omega
   obtain⟨ys,hys⟩:∃ z:Nat,Hid (y*s=z):=⟨_,rfl⟩
   have hysi:(y:Int)*(s:Int)=(ys:Int):=by rw [← hys.out];exact (Int.natCast_mul y s).symm
   rw [hys.out] at hmul hbd hst
   have hrr:=Ext.refl wr
   clear hc hc'
   go_wp2_with fail
   go_quiet (fail)
   go_wp2_with fail
   go_roundw
   case rel=>exact⟨k+1,ys+t,by omega,by go_num,by go_num,by unfold Hid;rw [hst.out],hbd,hx.drewN _⟩
   case measure=>simp [intOf];omega
  ·obtain rfl:n=k:=by omega
   have ziM:=za (show y=encF 0 sz st by rw [hy.out,List.take_of_length_le (by rw [hn1.out];exact Nat.le_refl _),List.take_of_length_le (by rw [hn2.out];exact Nat.le_refl _)])
   go_wp2
   go_ret
   exact⟨zG (by rw [ziM.out]),hx⟩
def decV (sz:List Nat) (x k:Nat):List Nat:=List.replicate k 0++dec (sz.drop k) x
theorem decV_set {sz:List Nat} {x k s:Nat}(h:sz[k]?=some s):(zS (decV sz x (k+1))).set k (.int .i64 ((x / zag (sz.drop (k+1)) % s:Nat):Int))=zS (decV sz x k):=by
 have hd:sz.drop k=s :: sz.drop (k+1):=by
  obtain⟨hk,rfl⟩:=List.getElem?_eq_some_iff.1 h
  exact List.drop_eq_getElem_cons hk
 unfold decV zS
 rw [hd,dec,List.replicate_succ',List.append_assoc,List.map_append,List.map_append,List.set_append_right _ _ (by simp)]
 simp
theorem zfh {A:Option Addr} {c n y0:Nat} {lo hi:Nat} {sz:List Nat} {w:World}(h:Lst zbb w lo hi A sz)(hn:sz.length=n)(hn5:n≤1000)(hz:∀ x∈sz,1≤x∧x≤16)(hy:y0≤4611686018427387904) :
  Calls Tryz.prog 215 #[.slice A n c,.int .i64 y0] w (zbB w (dec sz y0)):=by
 have HA:=za (fun W (hW:Ext w W)=>h.ext zbb.ok hW)
 have Hz:=za hz
 have Hn:=za hn
 clear hz h hn
 go_enter Tryz.func215,Tryz.ntmps215
 go_wp2_with (at_make;refine zar w w rfl _ _ 128 rfl 3 _ 1 8 Tryz.underlying128 zah _ _ n rfl rfl (Ext.refl _) (by omega) (by unfold maxLen;omega) ?_;intro w3 hw3 ziU hx23 hsz3)
 generalize hg:w.heap.size=g at *
 have Hg:=za hg
 clear hg hx23 hsz3
 go_loopw [1,6] (fun v i wr=>∃ k y:Nat,k≤n∧i=.int .i64 ((k:Int) - 1)∧v=.int .i64 y∧y≤4611686018427387904∧Hid (y=y0 / zag (sz.drop k))∧wr.ownsRow g 3 1 (.slice (some ⟨g,0,none⟩) n n) n (zS (decV sz y0 k))∧Ext w wr) (fun _ i _=>(intOf i+1).toNat)
 case atStart=>exact⟨n,y0,Nat.le_refl _,by go_num,rfl,hy,by unfold Hid;rw [List.drop_of_length_le (by have:=Hn.out;omega)];simp [zag],by rw [decV,List.drop_of_length_le (by have:=Hn.out;omega)];simpa [zS,dec,Value.cells,toList_madeCells_one] using ziU,hw3⟩
 case round =>
  clear ziU hw3
  obtain⟨k,y,hk,rfl,rfl,hym,hyo,ziJ,hx⟩:=hrel
  by_cases hlt:0<k
  ·obtain⟨j,rfl⟩:∃ j,k=j+1:=⟨k - 1,by omega⟩
   obtain⟨b,o,s,rfl,_,_,hs,hc⟩:=(HA.out wr hx).num (show j<sz.length by have:=Hn.out;omega)
   obtain⟨s1,s16⟩:=Hz.out s (List.mem_of_getElem? hs.out)
   obtain⟨o0,g0⟩:=zau ziJ j (by omega)
   have f0:=ziJ.frozenAt j
   have hmd:(y:Int) % (s:Int)=((y % s:Nat):Int):=(Int.natCast_emod y s).symm
   have hdv:(y:Int) / (s:Int)=((y / s:Nat):Int):=(Int.natCast_ediv y s).symm
   have hst:=ziJ.stored j (.int .i64 ((y % s:Nat):Int))
   rw [hyo.out,decV_set hs.out,← hyo.out] at hst
   have hdr:=za (show y / s=y0 / zag (sz.drop j) by
    rw [hyo.out,Nat.div_div_eq_div_mul,List.drop_eq_getElem_cons (show j<sz.length by have:=Hn.out;omega),zag]
    have:sz[j]'(by have:=Hn.out;omega)=s:=by
     obtain⟨h1,h2⟩:=List.getElem?_eq_some_iff.1 hs.out
     exact h2
    rw [this,Nat.mul_comm])
   have hle:y / s≤4611686018427387904:=Nat.le_trans (Nat.div_le_self _ _) hym
   have hs0:¬ (s=0):=by omega
   have hgw:w.heap.size≤g:=by have:=Hg.out;omega
   have hj1:((j+1:Nat):Int) - 1=(j:Int):=by omega
   rw [hj1]
   have hc2:=(HA.out _ (hx.setCell (p:=⟨g,j,none⟩) hgw (.int .i64 ((y % s:Nat):Int)))).num2 hs.out
   generalize y % s=ym at *
   generalize y / s=yd at *
   go_wp2
   go_roundw
   case rel=>exact⟨j,yd,by omega,rfl,rfl,hle,hdr,hst.1,hx.setCell (p:=⟨g,j,none⟩) hgw _⟩
   case measure=>simp [intOf]
  ·obtain rfl:k=0:=by omega
   have hlen:=zcY sz y0
   have ziM:=za (show wr.ownsRow w.heap.size 3 1 (.slice (some ⟨g,0,none⟩) (dec sz y0).length n) (dec sz y0).length (zS (dec sz y0)) by
    rw [hlen,Hn.out,Hg.out]
    simpa [decV] using ziJ)
   have hln:(dec sz y0).length=n:=by have:=Hn.out;omega
   go_wp2
   go_ret
   exact⟨some ⟨g,0,none⟩,n,by rw [hln];rfl,ziM.out,hx⟩
theorem spec_l4In {A:Option Addr} {c n:Nat} {lo hi x:Nat} {xs:List Nat} {w:World}(h:Lst zbb w lo hi A xs)(hn:xs.length=n) :
  Calls Tryz.prog 269 #[.slice A n c,.int .i64 x] w fun e w'=>e=.returned (.bool (decide (x∈xs)))∧w=w':=by
 have Hn:=za hn
 have hlen:=h.len
 rw [hn] at hlen
 clear hn
 go_enter Tryz.func269,Tryz.ntmps269
 go_wp2
 go_loop [5] (fun i=>∃ k:Nat,k≤n∧i=.int .i64 k∧Hid (∀ (j z:Nat),j<k→xs[j]?=some z→z≠x)) (fun i=>n - (intOf i).toNat)
 case atStart=>exact⟨0,Nat.zero_le _,rfl,(show Hid _ from fun j z hj=>by omega)⟩
 case round =>
  obtain⟨k,hk,rfl,hno⟩:=hrel
  by_cases hlt:k<n
  ·obtain⟨b,o,z,rfl,_,_,hz,hc⟩:=h.num (show k<xs.length by rw [Hn.out];exact hlt)
   by_cases hzx:z=x
   ·subst hzx
    have hm:=za (List.mem_of_getElem? hz.out)
    go_wp2
    go_ret
    exact⟨zj (by rw [decide_eq_true hm.out]),rfl⟩
   ·have hne:((z:Int)==(x:Int))=false:=by simp;omega
    go_wp2
    go_round
    case rel=>exact⟨k+1,by omega,by go_num,(show Hid _ from fun j y hj hy=>by
     by_cases e:j=k
     ·subst e
      have:=hz.out
      rw [hy] at this
      injection this with this
      subst this
      exact hzx
     ·exact hno.out j y (by omega) hy)⟩
    case measure=>simp [intOf];omega
  ·obtain rfl:n=k:=by omega
   have hm:=za (show ¬ x∈xs from fun hx=>by
    obtain⟨j,hj⟩:=List.getElem?_of_mem hx
    exact hno.out j x (by have:=(List.getElem?_eq_some_iff.1 hj).1;rw [Hn.out] at this;exact this) hj rfl)
   go_wp2
   go_ret
   exact⟨zj (by rw [decide_eq_false hm.out]),rfl⟩
def zcg (a:Aut) (q:Nat):Bool:=a.acc.getD q false
theorem zgM {PA AA:Option Addr} {pn pc an ac:Nat} {sv:Value} {L K G:Int} {ss:List Sys} {us:List Aut} {w:World} {SA:Option Addr} {sn sc lo hi i q:Nat} {st:List Nat} {a:Aut}(h:zeG w PA pn AA an ss us)(h':Lst zbb w lo hi SA st)(hsn:st.length=sn)(hi:us[i]?=some a)(hq:st[pn+i]?=some q)(hqa:q<a.acc.length) :
  Calls Tryz.prog 267 #[.agg #[.slice PA pn pc,.slice AA an ac,sv,.int .i64 L,.int .i64 K,.int .i64 G],.slice SA sn sc,.int .i64 i] w fun e w'=>e=.returned (.bool (zcg a q))∧Ext w w':=by
 have hia:i<an:=by obtain⟨_,_,h1⟩:=h.aut;rw [h1.1];exact (List.getElem?_eq_some_iff.1 hi).1
 have hsq:pn+i<sn:=by rw [← hsn];exact (List.getElem?_eq_some_iff.1 hq).1
 obtain⟨lo',hi',hal⟩:=h.aut
 have hlen:=hal.len
 have hlen':pn≤9223372036854775807:=by obtain⟨_,_,h1⟩:=h.sys;exact h1.len
 have hlen2:=h'.len
 rw [hsn] at hlen2
 obtain⟨b,o,a',B,m,c,B',m',c',rfl,ha',e0,e1,e2,hat⟩:=hal.aut hia
 obtain rfl:a=a':=by have:=ha'.out;rw [hi] at this;exact Option.some.inj this
 obtain⟨bs,os,q',rfl,_,_,hq',hc⟩:=h'.num (show pn+i<st.length by rw [hsn];exact hsq)
 obtain rfl:q=q':=by have:=hq'.out;rw [hq] at this;exact Option.some.inj this
 have hm':q<m':=by rw [hat.n2];exact hqa
 obtain⟨ad,x,rfl,_,_,hx,hcx⟩:=hat.2.2.bool hm'
 have ziM:=za (show zcg a q=x by unfold zcg;rw [List.getD_eq_getElem?_getD,hx.out];rfl)
 have hml:=hat.2.2.len
 have hw1:Ext w (w.alloc (.cells #[.slice PA pn pc,.slice (some ⟨b,o,none⟩) an ac,sv,.int .i64 L,.int .i64 K,.int .i64 G] 168)):=(Ext.refl w).alloc _
 have hb1:=Blk.new w 168 #[.slice PA pn pc,.slice (some ⟨b,o,none⟩) an ac,sv,.int .i64 L,.int .i64 K,.int .i64 G]
 have c1:∀ W,Ext w W→W.cell? ⟨b,o+i*3+2,none⟩=some (.slice (some ad) m' c'):=fun W hW=>hW.cell_some e2
 have c2:∀ W,Ext w W→W.cell? ⟨bs,os+(pn+i),none⟩=some (.int .i64 (q:Nat)):=fun W hW=>hW.cell_some hc
 have c3:∀ W,Ext w W→W.cell? (ad.add q)=some (.bool x):=fun W hW=>hW.cell_some hcx
 clear hal hat h h' e0 e1 e2 hc hcx hx hq' ha' hi hq hqa
 go_enter Tryz.func267,Tryz.ntmps267
 go_wp2_with fail
 generalize w.alloc (.cells #[.slice PA pn pc,.slice (some ⟨b,o,none⟩) an ac,sv,.int .i64 L,.int .i64 K,.int .i64 G] 168)=w1 at *
 have c0:=hb1.cell
 have c1:=c1 w1 hw1
 have c2:=c2 w1 hw1
 have c3:=c3 w1 hw1
 have hpi:(pn:Int)+(i:Int)<(sn:Int):=by omega
 have hii:(i:Int)<(an:Int):=by omega
 have hqi:(q:Int)<(m':Int):=by omega
 go_quiet (fail)
 go_wp2_with fail
 go_ret
 exact⟨zj (by rw [ziM.out]),hw1.drewN _⟩
def zad (w:World) (A:Option Addr) (m:Nat) (l:List Nat):Prop:=
 m=l.length∧m≤9223372036854775807∧(0<m→∃ (g o:Nat) (cs:Array Value),A=some ⟨g,o,none⟩∧w.heap[g]?=some (.cells cs 3 (0,0))∧∀ j x,l[j]?=some x→w.cell? ⟨g,o+j,none⟩=some (.int .i64 (x:Nat)))
theorem zad.frm {S:Nat→Prop} {w w':World} {A:Option Addr} {m:Nat} {l:List Nat}(h:zad w A m l)(hb:Frm S w w')(hS:∀ k,S k→∀ cs,w.heap[k]?≠some (.cells cs 3 (0,0))):zad w' A m l:=by
 refine⟨h.1,h.2.1,fun h0=>?_⟩
 obtain⟨g,o,cs,e,hh,hc⟩:=h.2.2 h0
 have hlt:=(Array.getElem?_eq_some_iff.1 hh).1
 have hn:¬ S g:=fun hs=>hS g hs cs hh
 exact⟨g,o,cs,e,(hb.block g hlt hn).trans hh,fun j x hx=>(World.cell?_of_block (w:=w) (hb.block g hlt hn)).trans (hc j x hx)⟩
theorem zad.ext {w w':World} {A:Option Addr} {m:Nat} {l:List Nat}(h:zad w A m l)(hb:Ext w w'):zad w' A m l:=h.frm (S:=fun _=>False) hb (fun _ hk=>hk.elim)
theorem zad.at_ {w:World} {A:Option Addr} {m k:Nat} {l:List Nat}(h:zad w A m l)(hk:k<m):∃ (g o x:Nat),A=some ⟨g,o,none⟩∧Hid (l[k]?=some x)∧w.cell? ⟨g,o+k,none⟩=some (.int .i64 (x:Nat)):=by
 obtain⟨g,o,cs,e,_,hc⟩:=h.2.2 (by omega)
 have hx:l[k]?=some (l[k]'(by have:=h.1;omega)):=List.getElem?_eq_getElem _
 exact⟨g,o,_,e,hx,hc k _ hx⟩
theorem zad.own {w:World} {base n c:Nat} {A:Option Addr} {l:List Nat}(h:w.ownsRow base 3 1 (.slice A n c) n (zS l)):zad w A n l:=by
 have hl:=h.1
 rw [zgA] at hl
 refine⟨by omega,(Reads.of_own h).len,fun h0=>?_⟩
 rcases h.2 with ⟨_,h1⟩|⟨g,cap,cur,hv,_,hh,_⟩
 ·omega
 ·have hA:A=some ⟨g,0,none⟩:=by injection hv
  subst hA
  refine⟨g,0,cur,rfl,hh,fun j x hx=>?_⟩
  have hj:=(List.getElem?_eq_some_iff.1 hx).1
  rw [Nat.zero_add,h.cellAt j (by omega)]
  simp [zS,hx]
theorem info_step:(Tryz.prog.info? 261).map (fun i=>(i.zero,i.size,i.bytes))=some (some (.agg #[.int .i64 0,.int .i64 0,.slice none 0 0]),3,40):=by kernel_rfl
def zbM:List (Stp × Value)→List Value
 |[]=>[]
 |(p,v) :: r=>.int .i64 p.parent :: .int .i64 (p.letter:Nat) :: v :: zbM r
theorem zhn (l m:List (Stp × Value)):zbM (l++m)=zbM l++zbM m:=by
 induction l with
 |nil=>rfl
 |cons x r ih=>obtain⟨p,v⟩:=x;simp [zbM,ih]
theorem zgN {l:List (Stp × Value)} {k:Nat} {p:Stp} {v:Value}(h:l[k]?=some (p,v)):(zbM l)[k*3]?=some (.int .i64 p.parent)∧(zbM l)[k*3+1]?=some (.int .i64 (p.letter:Nat))∧(zbM l)[k*3+2]?=some v:=by
 induction l generalizing k with
 |nil=>simp at h
 |cons a r ih =>
  cases k with
  |zero=>simp at h;subst h;exact⟨rfl,rfl,rfl⟩
  |succ k =>
   obtain⟨p',v'⟩:=a
   have:=ih (k:=k) (by simpa using h)
   have e1:(k+1)*3=k*3+1+1+1:=by omega
   refine⟨?_,?_,?_⟩<;>rw [e1]<;>simp only [zbM,List.getElem?_cons_succ]
   ·exact this.1
   ·exact this.2.1
   ·exact this.2.2
def Nodes (w:World) (sts:List (Stp × Value)):Prop:=∀ (k:Nat) (p:Stp) (v:Value),sts[k]?=some (p,v)→∃ A c,v=.slice A p.nodes.length c∧zad w A p.nodes.length p.nodes
theorem Nodes.frm {S:Nat→Prop} {w w':World} {sts:List (Stp × Value)}(h:Nodes w sts)(hb:Frm S w w')(hS:∀ k,S k→∀ cs,w.heap[k]?≠some (.cells cs 3 (0,0))):Nodes w' sts:=fun k p v hk=>by
 obtain⟨A,c,e,hx⟩:=h k p v hk
 exact⟨A,c,e,hx.frm hb hS⟩
structure Sea (w0 w:World) (bs bg bt gs N cs:Nat) (fg:Value) (S:List Bool) (vst:Value) (sts:List (Stp × Value)):Prop where
 ext:Ext w0 w
 vs:Blk w bs 26 #[.slice (some ⟨gs,0,none⟩) N cs]
 ds:w.ownsRow w0.heap.size 4 1 (.slice (some ⟨gs,0,none⟩) N cs) N (zP S)
 vg:∃ t,Blk w bg t #[fg]
 vt:Blk w bt 259 #[vst]
 dt:w.ownsRow w0.heap.size 261 3 vst sts.length (zbM sts)
 nd:Nodes w sts
 hs:w0.heap.size≤bs
 hg:w0.heap.size≤bg
 ht:w0.heap.size≤bt
 hgt:bg≠bt
 hgg:bg≠gs
 hgv:∀ b,vst.ownBlock=some b→b≠bg
section
variable {w0 w w':World} {bs bg bt gs N cs:Nat} {fg vst:Value} {S:List Bool} {sts:List (Stp × Value)}
theorem Sea.far {T:Nat→Prop} {H:Nat}(h:Sea w0 w bs bg bt gs N cs fg S vst sts)(hb:Frm T w w')(hT:∀ k,T k→H≤k)(h1:bs<H)(h2:bg<H)(h3:bt<H)(h4:gs<H)(h5:∀ b,vst.ownBlock=some b→b<H)(h0:w0.heap.size≤H)(hn:Nodes w' sts):Sea w0 w' bs bg bt gs N cs fg S vst sts:=by
 obtain⟨t,hvg⟩:=h.vg
 refine⟨h.ext.frm hb (fun k hk hS=>by have:=hT k hS;omega),h.vs.frm hb (fun hS=>by have:=hT _ hS;omega),zg h.ds hb (fun b hv hS=>?_),⟨t,hvg.frm hb (fun hS=>by have:=hT _ hS;omega)⟩,h.vt.frm hb (fun hS=>by have:=hT _ hS;omega),zg h.dt hb (fun b hv hS=>by have:=hT _ hS;have:=h5 b hv;omega),hn,h.hs,h.hg,h.ht,h.hgt,h.hgg,h.hgv⟩
 have hbg:gs=b:=by simpa [Value.ownBlock] using hv
 have:=hT _ hS
 omega
theorem Sea.ext_ (h:Sea w0 w bs bg bt gs N cs fg S vst sts)(hx:Ext w w'):Sea w0 w' bs bg bt gs N cs fg S vst sts:=by
 obtain⟨t,hvg⟩:=h.vg
 exact⟨h.ext.trans hx,h.vs.ext hx,zh h.ds hx,⟨t,hvg.ext hx⟩,h.vt.ext hx,zh h.dt hx,h.nd.frm (S:=fun _=>False) hx (fun _ hk=>hk.elim),h.hs,h.hg,h.ht,h.hgt,h.hgg,h.hgv⟩
theorem Sea.gs_lt (h:Sea w0 w bs bg bt gs N cs fg S vst sts):w0.heap.size≤gs∧gs<w.heap.size:=h.ds.lt gs rfl
theorem Sea.gs_row (h:Sea w0 w bs bg bt gs N cs fg S vst sts):∃ cur,w.heap[gs]?=some (.cells cur 4 (0,0)):=by
 rcases h.ds.2 with ⟨hv,_⟩|⟨g,cap,cur,hv,_,hh,_⟩
 ·injection hv with h1;cases h1
 ·have:gs=g:=by injection hv with h1;injection h1 with h1;injection h1
  subst this
  exact⟨cur,hh⟩
theorem Sea.vst_row (h:Sea w0 w bs bg bt gs N cs fg S vst sts) {b:Nat}(hb:vst.ownBlock=some b):∃ cur,w.heap[b]?=some (.cells cur 261 (0,0)):=by
 rcases h.dt.2 with ⟨rfl,_⟩|⟨g,cap,cur,rfl,_,hh,_⟩
 ·simp [Value.ownBlock] at hb
 ·have hg:g=b:=by simpa [Value.ownBlock] using hb
  subst hg
  exact⟨cur,hh⟩
theorem Sea.mark (h:Sea w0 w bs bg bt gs N cs fg S vst sts) {n:Nat}:Sea w0 (w.setCell ⟨gs,n,none⟩ (.bool true)) bs bg bt gs N cs fg (S.set n true) vst sts:=by
 obtain⟨t,hvg⟩:=h.vg
 obtain⟨cur,hh⟩:=h.gs_row
 have hf:=Frm.setCell w gs n (.bool true)
 have hne:∀ {b:Nat} {t:TypeId} {cs:Array Value},w.heap[b]?=some (.cells cs t (0,0))→t≠4→b≠gs:=by
  rintro b t cs hb ht rfl
  rw [hh] at hb
  injection hb with hb
  injection hb with _ h2
  exact ht h2.symm
 have hset:(zP S).set n (.bool true)=zP (S.set n true):=by simp [zP,List.map_set]
 have hds:=(h.ds.stored n (.bool true)).1
 rw [hset] at hds
 refine⟨h.ext.setCell h.gs_lt.1 _,h.vs.frm hf (hne h.vs (by decide)),hds,⟨t,hvg.frm hf h.hgg⟩,h.vt.frm hf (hne h.vt (by decide)),zg h.dt hf (fun b hv=>?_),h.nd.frm hf (fun k hk cs hc=>?_),h.hs,h.hg,h.ht,h.hgt,h.hgg,h.hgv⟩
 ·obtain⟨cur',hh'⟩:=h.vst_row hv
  exact hne hh' (by decide)
 ·exact hne hc (by decide) hk
theorem Sea.push {g cap l c':Nat} {A':Option Addr} {p:Stp}(h:Sea w0 w bs bg bt gs N cs fg S vst sts) (ziJ:w'.ownsRow w0.heap.size 261 3 (.slice (some ⟨g,0,none⟩) (sts.length+1) cap) (sts.length+1) (zbM sts++[.int .i64 p.parent,.int .i64 (p.letter:Nat),.slice A' l c']))
  (hg:w.grownBy w' vst.ownBlock) (hat:vst.ownBlock=some g∨g=w.heap.size+1) (hl:l=p.nodes.length) (hA:zad w A' l p.nodes) :
  Hid (w'.cell? ⟨bt,0,none⟩=some vst)∧w'.frozen? ⟨bt,0,none⟩=false∧Sea w0 (w'.setCell ⟨bt,0,none⟩ (.slice (some ⟨g,0,none⟩) (sts.length+1) cap)) bs bg bt gs N cs fg S (.slice (some ⟨g,0,none⟩) (sts.length+1) cap) (sts++[(p,.slice A' l c')]):=by
 obtain⟨t,hvg⟩:=h.vg
 have hf:=Frm.of_grown hg
 have hrow:∀ {b:Nat} {t:TypeId} {cs:Array Value},w.heap[b]?=some (.cells cs t (0,0))→t≠261→¬ (vst.ownBlock=some b):=by
  intro b t cs hb ht hv
  obtain⟨cur,hh⟩:=h.vst_row hv
  rw [hh] at hb
  injection hb with hb
  injection hb with _ h2
  exact ht h2.symm
 obtain⟨cur,hgs⟩:=h.gs_row
 have hvt:Blk w' bt 259 #[vst]:=h.vt.frm hf (hrow h.vt (by decide))
 have hvs:=h.vs.frm hf (hrow h.vs (by decide))
 have hds:=zg h.ds hf (fun b hv=>by
  have hb:gs=b:=by simpa [Value.ownBlock] using hv
  subst hb
  exact hrow hgs (by decide))
 have hvg':=hvg.frm hf (fun hv=>h.hgv _ hv rfl)
 have hnd:=h.nd.frm hf (fun k hk cs hc=>hrow hc (by decide) hk)
 have hA':=hA.frm hf (fun k hk cs hc=>hrow hc (by decide) hk)
 have hgs':w'.heap[gs]?=some (.cells cur 4 (0,0)):=(hf.block gs h.gs_lt.2 (hrow hgs (by decide))).trans hgs
 have hx:Ext w0 w':=h.ext.frm hf (fun k hk hv=>by have:=(h.dt.lt k hv).1;omega)
 have hgbg:g≠bg:=by
  rcases hat with h1|h1
  ·exact h.hgv g h1
  ·have:=hvg.lt;omega
 have hgr:∃ cur,w'.heap[g]?=some (.cells cur 261 (0,0)):=by
  rcases ziJ.2 with ⟨hv,_⟩|⟨g',cap',cur,hv,_,hh,_⟩
  ·injection hv with h1;cases h1
  ·have:g=g':=by injection hv with h1;injection h1 with h1;injection h1
   subst this
   exact⟨cur,hh⟩
 obtain⟨cur',hgr⟩:=hgr
 have hf2:=Frm.setCell w' bt 0 (.slice (some ⟨g,0,none⟩) (sts.length+1) cap)
 have hne:∀ {b:Nat} {t:TypeId} {cs:Array Value},w'.heap[b]?=some (.cells cs t (0,0))→t≠259→b≠bt:=by
  rintro b t cs hb ht rfl
  unfold Blk at hvt
  rw [hvt] at hb
  injection hb with hb
  injection hb with _ h2
  exact ht h2.symm
 have hdt:=zg ziJ hf2 (fun b hv=>by
  have hb:g=b:=by simpa [Value.ownBlock] using hv
  subst hb
  exact hne hgr (by decide))
 have hnd2:=hnd.frm hf2 (fun k hk cs hc=>hne hc (by decide) hk)
 have hA2:=hA'.frm hf2 (fun k hk cs hc=>hne hc (by decide) hk)
 refine⟨hvt.cell 0,hvt.frozen 0,hx.setCell h.ht _,hvs.frm hf2 (hne hvs (by decide)),zg hds hf2 (fun b hv=>by
  have hb:gs=b:=by simpa [Value.ownBlock] using hv
  subst hb
  exact hne hgs' (by decide)),⟨t,hvg'.frm hf2 h.hgt⟩,by simpa using hvt.set_ 0 _,?_,?_,h.hs,h.hg,h.ht,h.hgt,h.hgg,fun b hv=>?_⟩
 ·rw [zhn]
  simpa [zbM] using hdt
 ·intro k p' v' hk
  rcases Nat.lt_trichotomy k sts.length with h1|h1|h1
  ·rw [List.getElem?_append_left h1] at hk
   exact hnd2 k p' v' hk
  ·rw [List.getElem?_append_right (by omega),h1,Nat.sub_self] at hk
   have:=Option.some.inj hk
   injection this with e1 e2
   subst e1;subst e2
   subst hl
   exact⟨A',c',rfl,hA2⟩
  ·rw [List.getElem?_eq_none (by simp;omega)] at hk
   cases hk
 ·have hb:g=b:=by simpa [Value.ownBlock] using hv
  subst hb
  exact hgbg
end
def RetVisit (w0 w:World) (bs bg bt gs N cs:Nat) (fg:Value) (S:List Bool) (sts:List (Stp × Value)) (goal:Nat→Bool) (parent:Int) (letter:Nat) (ns:List Nat) (e:Ending) (w':World):Prop:=
 e=.returned (.bool ((vis S ns).2.any goal))∧Ext w0 w'∧w.heap.size≤w'.heap.size ∧
  ∃ (vst:Value) (sts':List (Stp × Value)),Sea w0 w' bs bg bt gs N cs fg (vis S ns).1 vst sts' ∧
   (((vis S ns).2=[]∧sts'=sts)∨((vis S ns).2≠[]∧∃ v,sts'=sts++[(⟨parent,letter,(vis S ns).2⟩,v)]))
theorem vis_take {S:List Bool} {ns:List Nat} {k n:Nat}(h:ns[k]?=some n):vis S (ns.take (k+1))=visN (vis S (ns.take k)) n:=by
 rw [List.take_add_one,h]
 exact vis_snoc _ _ _
theorem Frm.grown_ {T:Nat→Prop} {w W W':World} {row:Option Nat}(h:Frm T w W)(hg:W.grownBy W' row)(hr:∀ k,row=some k→w.heap.size≤k):Frm T w W':=
 ⟨hg.os.trans h.os,hg.tape.trans h.tape,hg.output.trans h.output,Nat.le_trans h.size hg.size,fun k hk hn=>(hg.block k (Nat.lt_of_lt_of_le hk h.size) (fun e=>by have:=hr k e.symm;omega)).trans (h.block k hk hn)⟩
theorem any_snoc {l:List Nat} {n:Nat} {p:Nat→Bool}:(l++[n]).any p=(l.any p || p n):=by simp
theorem zgS {w0 w:World} {bs bg bt gs N cs kg:Nat} {capg:Array Value} {goal:Nat→Bool} {S:List Bool} {vst:Value} {sts:List (Stp × Value)} {A:Option Addr} {m c letter:Nat} {parent:Int} {ns:List Nat}
  (h:Sea w0 w bs bg bt gs N cs (.func (.func kg) #[] capg) S vst sts) (hA:zad w A m ns) (hN:∀ n∈ns,n<N) (hm:m≤1099511627776) (hst:sts.length≤1073741824)
  (hin:∀ args W,(callFunc kg args).run Tryz.prog W=.ok (.enter kg args) W) (hgoal:∀ W,Ext w0 W→∀ n,n<N→Calls Tryz.prog kg (#[.int .i64 (n:Nat)]++capg) W fun e W'=>e=.returned (.bool (goal n))∧Ext W W') :
  Calls Tryz.prog 244 #[.int .i64 parent,.int .i64 letter,.slice A m c,.pointer (some ⟨bs,0,none⟩),.pointer (some ⟨bg,0,none⟩),.pointer (some ⟨bt,0,none⟩)] w (RetVisit w0 w bs bg bt gs N cs (.func (.func kg) #[] capg) S sts goal parent letter ns):=by
 have hSl:=za (show S.length=N by have:=h.ds.1;rw [zaH] at this;omega)
 have hnl:=za hA.1
 have hNs:=za hN
 have Hgoal:=za hgoal
 have h1:=h.vs.lt
 have h2:bg<w.heap.size:=by obtain⟨t,hh⟩:=h.vg;exact hh.lt
 have h3:=h.vt.lt
 have h4:=h.gs_lt
 have h5:=za (fun b (hb:vst.ownBlock=some b)=>(h.dt.lt b hb).2)
 have h0:=h.ext.size
 have HgsI:=za (show ∀ k,k=gs→∀ cs,w.heap[k]?≠some (.cells cs 3 (0,0)) by
  rintro k rfl cs' hc
  obtain⟨cur,hh⟩:=h.gs_row
  rw [hh] at hc
  injection hc with hc
  injection hc with _ h2
  exact absurd h2 (by decide))
 have Hnd:=za h.nd
 clear hN hgoal
 go_enter Tryz.func244,Tryz.ntmps244
 go_wp2_with fail
 go_loopw [10,11,16] (fun v q i wr=>∃ k:Nat,k≤m∧i=.int .i64 k∧q=.bool ((vis S (ns.take k)).2.any goal)∧wr.ownsRow w.heap.size 3 1 v (vis S (ns.take k)).2.length (zS (vis S (ns.take k)).2)∧(vis S (ns.take k)).2.length≤k ∧
   Sea w0 wr bs bg bt gs N cs (.func (.func kg) #[] capg) (vis S (ns.take k)).1 vst sts∧Frm (fun b=>b=gs) w wr) (fun _ _ i _=>m - (intOf i).toNat)
 case atStart=>exact⟨0,Nat.zero_le _,rfl,rfl,World.ownsRow_nil _ _ _ _,Nat.zero_le _,h,Frm.refl _ _⟩
 case round =>
  clear h
  obtain⟨k,hk,rfl,rfl,ziJ,hfl,h,hfr⟩:=hrel
  have hTl:=za (show (vis S (ns.take k)).1.length=N by have:=h.ds.1;rw [zaH] at this;omega)
  by_cases hlt:k<m
  ·obtain⟨g,o,n,rfl,hx,hc⟩:=(hA.frm hfr HgsI.out).at_ hlt
   have hnN:=hNs.out n (List.mem_of_getElem? hx.out)
   have hv1:=za (vis_take (S:=S) hx.out)
   generalize vis S (ns.take k)=st at *
   obtain⟨T,fr⟩:=st
   simp only at ziJ hfl h hTl
   obtain⟨tb,htb⟩:∃ tb,Hid (T[n]?=some tb):=⟨_,List.getElem?_eq_getElem (by have:=hTl.out;omega)⟩
   have htd:=za (show T.getD n true=tb by rw [List.getD_eq_getElem?_getD,htb.out];rfl)
   have cS:=h.vs.cell
   have cD:wr.cell? ⟨gs,n,none⟩=some (.bool tb):=by rw [h.ds.cellAt n (by omega)];simp [zP,htb.out]
   have fD:=h.ds.frozenAt n
   cases tb
   ·have hv2:=za (hv1.out.trans (show visN (T,fr) n=(T.set n true,fr++[n]) by unfold visN;rw [if_neg (by rw [htd.out];decide)]))
    have hmk:=h.mark (n:=n)
    have hfm:Frm (fun b=>b=gs) w (wr.setCell ⟨gs,n,none⟩ (.bool true)):=hfr.cell rfl _
    have hgsw:=h4.2
    have hownm:=zg ziJ (Frm.setCell wr gs n (.bool true)) (fun b hv hS=>by have:=(ziJ.lt b hv).1;omega)
    have hcf:∃ tg,Blk wr bg tg #[.func (.func kg) #[] capg]:=h.vg
    cases hfb:fr.any goal
    all_goals
     have Hfb:=za hfb
     clear hfb
     go_upto_region 8 with fail
     generalize wr.setCell ⟨gs,n,none⟩ (.bool true)=w2 at *
     go_wp2_with (at_builtin;refine zaZ w _ rfl _ _ _ rfl 3 _ 1 8 Tryz.underlying128 zah rfl (by decide) u10 fr.length (zS fr) _ _ rfl rfl hfm.size hownm rfl (by simp [Value.oneCell']) (by unfold maxLen;omega) (by omega) ?_;intro g5 cap5 w3 ziU hg3 hat3 hlt3;have hf3:Frm (fun b=>b=gs) w w3:=hfm.grown_ hg3 (fun k hk=>(hownm.lt k hk).1);have hsea3:=hmk.far (Frm.of_grown hg3) (fun k hk=>(hownm.lt k hk).1) h1 h2 h3 h4.2 h5.out h0 (Hnd.out.frm hf3 HgsI.out);obtain⟨tg,hbg3⟩:=hsea3.vg;have cg3:=hbg3.cell)
    ·refine (Hgoal.out w3 hsea3.ext n hnN).mono ?_
     rintro e w4 ⟨rfl,hx4⟩
     go_wp2_with fail
     go_roundw
     case rel=>exact⟨k+1,by omega,by go_num,by rw [hv2.out,any_snoc,Hfb.out];rfl,by rw [hv2.out];simpa [zS] using zh ziU hx4,by rw [hv2.out];simp;omega,by rw [hv2.out];exact hsea3.ext_ hx4,hf3.ext hx4⟩
     case measure=>simp [intOf];omega
    ·go_roundw
     case rel=>exact⟨k+1,by omega,by go_num,by rw [hv2.out,any_snoc,Hfb.out];rfl,by rw [hv2.out];simpa [zS] using ziU,by rw [hv2.out];simp;omega,by rw [hv2.out];exact hsea3,hf3⟩
     case measure=>simp [intOf];omega
   ·have hv2:=za (hv1.out.trans (show visN (T,fr) n=(T,fr) by unfold visN;rw [if_pos htd.out]))
    go_wp2_with fail
    go_roundw
    case rel=>exact⟨k+1,by omega,by go_num,by rw [hv2.out],by rw [hv2.out];exact ziJ,by rw [hv2.out];exact Nat.le_succ_of_le hfl,by rw [hv2.out];exact h,hfr⟩
    case measure=>simp [intOf];omega
  ·obtain rfl:k=m:=by omega
   have htk:ns.take k=ns:=List.take_of_length_le (by have:=hnl.out;omega)
   rw [htk] at ziJ hfl h ⊢
   have hsz:=hfr.size
   clear htk hTl
   obtain⟨A',c',rfl⟩:=zi ziJ
   have hA':=zad.own ziJ
   have hres:=za (show ∀ W vst' sts',Sea w0 W bs bg bt gs N cs (.func (.func kg) #[] capg) (vis S ns).1 vst' sts'→w.heap.size≤W.heap.size→(((vis S ns).2=[]∧sts'=sts)∨((vis S ns).2≠[]∧∃ v,sts'=sts++[(⟨parent,letter,(vis S ns).2⟩,v)]))→RetVisit w0 w bs bg bt gs N cs (.func (.func kg) #[] capg) S sts goal parent letter ns (.returned (.bool ((vis S ns).2.any goal))) W from fun W vst' sts' h1 h2 h3=>⟨rfl,h1.ext,h2,vst',sts',h1,h3⟩)
   clear Hgoal hin
   generalize vis S ns=st at *
   obtain⟨T,fr⟩:=st
   simp only at ziJ hfl h hA' hres ⊢
   generalize fr.any goal=found at *
   cases hfr0:fr with
   |nil =>
    subst hfr0
    go_wp2_with fail
    go_ret
    exact hres.out _ _ _ h hsz (Or.inl (by simp))
   |cons x r =>
    have hfl0:0<fr.length:=by rw [hfr0];simp
    have hfne:=za (show fr≠[] by rw [hfr0];simp)
    rw [← hfr0]
    clear hfr0
    have cT:=h.vt.cell
    go_wp2_with (at_builtin;refine zaZ w0 wr rfl _ _ _ rfl 261 _ 3 40 Tryz.underlying259 info_step rfl (by decide) vst sts.length (zbM sts) _ _ rfl rfl h.ext.size h.dt rfl (by simp [Value.oneCell']) (by unfold maxLen;omega) (by omega) ?_;intro g5 cap5 w3 ziU hg3 hat3 hlt3;obtain⟨q1,q2,q3⟩:=h.push (p:=⟨parent,letter,fr⟩) ziU hg3 hat3 rfl hA';have q1':=q1.out;have hsz3:=hg3.size)
    go_ret
    exact hres.out _ _ _ q3 (by simp;omega) (Or.inr ⟨hfne.out,_,rfl⟩)
end Go.Proofs.YtcfchopfijalpaaGreatDoor
namespace Go.Proofs.YtcfchopfijalpaaGreatDoor
open Go Go.RowKit Go.Lib Go.Sort
abbrev zht (n:Int):Value:=.int .u8 n
set_option maxRecDepth 1000000 in
theorem rev_bytes (blk off cap:Nat) (d:Array Int) (w:World)(hH:Holds zht w blk off d)(hsz:d.size≤9223372036854775807) :
  Calls Tryz.prog 277 #[.slice (some ⟨blk,off,none⟩) d.size cap] w fun e w'=>e=.returned (.tuple #[])∧∃ n,w'=putRow zht (Sort.ahead w n) blk off d.reverse:=by
 have mixed:Tryz.prog.follows .mixedOrders=true:=by kernel_rfl
 go_enter Tryz.func277,Tryz.ntmps277
 go_wp2
 go_loopg [2,3] d.size (fun k s2 s3 wr=>∃ (i jn:Nat) (jz:Int) (dk:Array Int) (n:Nat),s2=.int .i64 i∧s3=.int .i64 jz∧((i:Int)<jz→jz=jn∧jn<d.size)∧(¬ (i:Int)<jz→¬ i<jn)∧jn - i≤k ∧
  dk.size=d.size∧wr=putRow zht (Sort.ahead w n) blk off dk∧reverseLoop i jn dk=reverseLoop 0 (d.size - 1) d)
 case atStart=>exact⟨0,d.size - 1,(d.size:Int) - 1,d,0,rfl,rfl,fun h=>⟨by omega,by omega⟩,fun h=>by omega,by omega,rfl,(putRow_self zht w blk off d hH).symm,rfl⟩
 case round =>
  obtain⟨i,jn,jz,dk,n,rfl,rfl,h1,h2,hk,hds,hwr,heq⟩:=hrel
  by_cases hlt:(i:Int)<jz
  ·obtain⟨rfl,hjn⟩:=h1 hlt
   have hij:i<jn:=by omega
   have hid:i<d.size:=by omega
   have hHk:Holds zht wr blk off dk:=by rw [hwr];exact holds_putRow zht _ blk off d dk (holds_ahead zht w n blk off d hH) hds
   obtain⟨ci,fi⟩:=hHk i (by omega)
   obtain⟨cj,fj⟩:=hHk jn (by omega)
   have A:Aside (wr=putRow zht (Sort.ahead w n) blk off dk):=hwr
   clear hwr hHk hH h1 h2
   go_wp2_with fail
   go_region_o
   go_wp2
   go_roundg (jn - 1 - (i+1))
   case measure=>omega
   case rel =>
    rw [reverseLoop,if_pos hij] at heq
    exact⟨i+1,jn - 1,(jn:Int) - 1,swp dk i jn,n+1,by simp,rfl,fun h=>⟨by omega,by omega⟩,fun h=>by omega,Nat.le_refl _,by rw [size_swp];exact hds,
     swap_world zht (by omega) (by omega) A.out (by first|rfl|simp [zht,getElem!_pos,show jn<dk.size by omega]) (by first|rfl|simp [zht,getElem!_pos,show i<dk.size by omega]),heq⟩
  ·have hnot:=h2 hlt
   go_wp2
   go_end0
   refine⟨rfl,n,?_⟩
   rw [reverseLoop,if_neg hnot] at heq
   rw [← Lib.reverseLoop_reverse,← heq]
end Go.Proofs.YtcfchopfijalpaaGreatDoor
namespace Go.Proofs.YtcfchopfijalpaaGreatDoor
open Go Go.RowKit
theorem zbj {l:Nat}(hl:l<6) (w:World):Calls Tryz.prog 160 #[.int .i64 (l:Nat)] w fun e w'=>e=.returned (.int .u8 ((97+l:Nat):Nat))∧w=w':=by
 go_enter Tryz.func160,Tryz.ntmps160
 go_wp2
 go_ret
 exact⟨by rw [show (((97+l:Nat):Nat):Int)=97+(l:Int) by omega];rfl,rfl⟩
theorem rev_none (w:World):Calls Tryz.prog 277 #[.slice none 0 0] w fun e w'=>e=.returned (.tuple #[])∧w'=w:=by
 go_enter Tryz.func277,Tryz.ntmps277
 go_wp2
 go_loopg [2,3] 0 (fun k s2 s3 wr=>s2=.int .i64 0∧s3=.int .i64 (-1)∧wr=w)
 case atStart=>exact⟨rfl,rfl,rfl⟩
 case round =>
  obtain⟨rfl,rfl,rfl⟩:=hrel
  go_wp2
  go_end0
  exact⟨rfl,rfl⟩
theorem zih:(Tryz.prog.info? 5).map (fun i=>(i.zero,i.size,i.bytes))=some (some (.int .u8 0),1,1):=by kernel_rfl
def lbs (o:List Nat):List Int:=o.map fun l=>((97+l:Nat):Int)
theorem lbs_reverse (o:List Nat):lbs o.reverse=(lbs o).reverse:=by simp [lbs]
def u8s (l:List Int):List Value:=l.map zht
theorem Holds.own8 {w:World} {base g n cap:Nat} {e:TypeId} {l:List Int}(h:w.ownsRow base e 1 (.slice (some ⟨g,0,none⟩) n cap) n (u8s l)):Sort.Holds zht w g 0 l.toArray:=by
 intro j hj
 have hj':j<l.length:=by simpa using hj
 have hn:=h.1
 simp only [u8s,List.length_map] at hn
 refine⟨?_,by rw [Nat.zero_add];exact h.frozenAt j⟩
 rw [Nat.zero_add,h.cellAt j (by omega)]
 simp [u8s,hj']
theorem Ext.putRow {w W:World} {g off n:Nat} {d:Array Int}(h:Ext w W)(hg:w.heap.size≤g):Ext w (Sort.putRow zht (Sort.ahead W n) g off d):=by
 refine⟨h.os,h.tape,h.output,?_,fun k hk _=>?_⟩
 ·show w.heap.size≤(W.heap.modify g _).size
  rw [Array.size_modify];exact h.size
 ·show (W.heap.modify g _)[k]?=_
  rw [Array.getElem?_modify,if_neg (by omega)]
  exact h.heap hk
theorem u8_row:Tryz.prog.underlying 62=some (.slice 5):=by kernel_rfl
theorem u8_und:Tryz.prog.underlying 5=some (.int .u8):=by kernel_rfl
theorem ziE:Tryz.prog.underlying 9=some .string:=by kernel_rfl
theorem Ext.put_some {w W w':World} {g off:Nat} {d:Array Int}(h:Ext w W)(hg:w.heap.size≤g)(hw:∃ n,w'=Sort.putRow zht (Sort.ahead W n) g off d):Ext w w':=by
 obtain⟨n,rfl⟩:=hw
 exact h.putRow hg
theorem conv_rev {W w':World} {g cap:Nat} {o:List Nat}(h:Sort.Holds zht W g 0 (lbs o).toArray)(hw:∃ n,w'=Sort.putRow zht (Sort.ahead W n) g 0 (lbs o).toArray.reverse) :
  (convert 62 9 (.slice (some ⟨g,0,none⟩) o.length cap)).run Tryz.prog w'=.ok (.string (strOfNums (lbs o.reverse))) w':=by
 obtain⟨n,rfl⟩:=hw
 have hH:=Sort.holds_putRow zht _ g 0 _ (lbs o).toArray.reverse (Sort.holds_ahead zht W n g 0 _ h) (by simp)
 refine run_convert_bytes_arg (P:=Tryz.prog) _ 62 5 u8_row u8_und g 0 o.length cap (lbs o.reverse) (by simp [lbs]) (fun i hi=>?_) _ ziE
 rw [(hH i (by simpa [lbs] using hi)).1,lbs_reverse]
 have hi2:i<(lbs o).reverse.length:=by simpa [lbs] using hi
 have hi3:i<(lbs o).toArray.reverse.size:=by simpa [lbs] using hi
 rw [getElem!_pos (lbs o).toArray.reverse i hi3]
 simp [zht,List.getD,List.getElem?_eq_getElem hi2,-List.getElem?_reverse,-List.getElem_reverse]
theorem pathWord_any {w:World} {base:Nat} {A:Option Addr} {n c:Nat} {sts:List (Stp × Value)} {ws:List (List Nat)}(h:w.ownsRow base 261 3 (.slice A n c) n (zbM sts))(hn:sts.length=n)(h0:0<n)(hsz:n≤1073741824)
  (hw:∀ (k:Nat) (p:Stp) (v:Value),sts[k]?=some (p,v)→(p.parent = -1∧ws.getD k []=[])∨∃ a:Nat,p.parent=(a:Int)∧a<k∧p.letter<6∧ws.getD k []=ws.getD a []++[p.letter]) :
  Calls Tryz.prog 245 #[.slice A n c] w fun e w'=>e=.returned (.string (strOfNums (lbs (ws.getD (n - 1) []))))∧Ext w w':=by
 have Hw:=za hw
 have Hn:=za hn
 obtain⟨g,rfl⟩:∃ g,A=some ⟨g,0,none⟩:=by
  rcases h.2 with ⟨_,hh⟩|⟨g,cap,cur,hv,_⟩
  ·omega
  ·exact⟨g,by injection hv⟩
 have hgl:=(h.lt g rfl).2
 have Hcell:=za (fun (k:Nat) (p:Stp) (v:Value) (hk:sts[k]?=some (p,v))=>(show w.cell? ⟨g,k*3,none⟩=some (.int .i64 p.parent)∧w.cell? ⟨g,k*3+1,none⟩=some (.int .i64 (p.letter:Nat)) by
  have hkl:=(List.getElem?_eq_some_iff.1 hk).1
  obtain⟨e1,e2,_⟩:=zgN hk
  rw [h.cellAt _ (by omega),h.cellAt _ (by omega)]
  exact⟨e1,e2⟩))
 clear hw hn h
 go_enter Tryz.func245,Tryz.ntmps245
 go_wp2
 go_loopw [3,4] (fun v i wr=>∃ (k:Nat) (o:List Nat),k<n∧i=.int .i64 k∧wr.ownsRow w.heap.size 5 1 v o.length (u8s (lbs o))∧Hid (ws.getD (n - 1) []=ws.getD k []++o.reverse)∧o.length+k<n∧Ext w wr)
  (fun _ i _=>(intOf i).toNat)
 case atStart=>exact⟨n - 1,[],by omega,by first|go_num|(congr 1;omega),World.ownsRow_nil _ _ _ _,by simp [Hid],by simp;omega,Ext.refl _⟩
 case round =>
  obtain⟨k,o,hk,rfl,ziJ,hword,hol,ziL⟩:=hrel
  obtain⟨p,v,hp⟩:∃ p v,sts[k]?=some (p,v):=⟨_,_,List.getElem?_eq_getElem (by have:=Hn.out;omega)⟩
  obtain⟨c0,c1⟩:=Hcell.out k p v hp
  have C0:∀ W,Ext w W→W.cell? ⟨g,k*3,none⟩=some (.int .i64 p.parent):=fun W hW=>hW.cell_some c0
  have C1:∀ W,Ext w W→W.cell? ⟨g,k*3+1,none⟩=some (.int .i64 (p.letter:Nat)):=fun W hW=>hW.cell_some c1
  obtain⟨par,l,ns⟩:=p
  dsimp only at C0 C1
  have hkn:(k:Int)<(n:Int):=by omega
  clear c0 c1
  rcases Hw.out k _ v hp with ⟨hpar,hwk⟩|⟨a,hpar,hak,hl6,hwk⟩
  ·dsimp only at hpar
   subst hpar
   have hwf:=za (show ws.getD (n - 1) []=o.reverse by rw [hword.out,hwk];rfl)
   clear hword hwk hp
   rcases ziJ.2 with ⟨rfl,hol0⟩|⟨gg,cap,cur,rfl,hgg,hh,_⟩
   ·have ho:o=[]:=List.eq_nil_of_length_eq_zero hol0
    subst ho
    have hcv:∀ W,(convert 62 9 (.slice none 0 0)).run Tryz.prog W=.ok (.string ByteArray.empty) W:=fun W=>run_convert_bytes_nil (P:=Tryz.prog) W 62 5 u8_row u8_und _ _ _ ziE
    go_wp2_with (go_at_call 277;refine (rev_none _).mono ?_;rintro e w' ⟨rfl,rfl⟩)
    go_ret
    exact⟨by rw [hwf.out];rfl,ziL⟩
   ·have key:=rev_bytes gg 0 cap (lbs o).toArray wr (Holds.own8 ziJ) (by simp [lbs];omega)
    rw [show (lbs o).toArray.size=o.length by simp [lbs]] at key
    have hH:=za (Holds.own8 ziJ)
    go_wp2_with (go_at_call 277;refine key.mono ?_;rintro e w' ⟨rfl,hw'⟩;have hcv:=conv_rev (cap:=cap) hH.out hw';have hx:=Ext.put_some ziL hgg hw';clear hw')
    go_ret
    exact⟨by rw [hwf.out];rfl,hx⟩
  ·dsimp only at hpar hwk hl6
   subst hpar
   have hwn:=za (show ws.getD (n - 1) []=ws.getD a []++(o++[l]).reverse by rw [hword.out,hwk];simp)
   clear hword hwk hp
   go_wp2_with (first
    |(go_at_call 160;refine (zbj hl6 _).mono ?_;rintro e w' ⟨rfl,rfl⟩)
    |(at_builtin;refine zak w wr rfl (.tmp 19) (.tmp 26) _ rfl 5 _ 1 1 Tryz.underlying62 zih rfl (by decide) u3 _ _ _ _ rfl rfl ziL ziJ rfl (zhU _) (by unfold maxLen;omega) (by omega) ?_;intro v' w1 hext1 ziS hg1 hat1))
   go_roundw
   case rel=>exact⟨a,o++[l],by omega,rfl,by simpa [u8s,lbs] using ziS,hwn,by simp;omega,by assumption⟩
   case measure=>simp [intOf];omega
def zJ (w:World) (d:Nat→Nat→List Nat) (start:List Nat) (goal:Nat→Bool) (L:List Nat) (e:Ending) (w':World):Prop:=
 Ext w w'∧((∃ v,e=.returned (.tuple #[.string (strOfNums (lbs v)),.bool true])∧Found d start goal L v)∨(e=.returned (.tuple #[.string ByteArray.empty,.bool false])∧Lost d start goal L))
theorem Sea.start {w w1:World} {N:Nat} {fg:Value} {t:TypeId}(hx:Ext (w.alloc (.cells #[fg] t)) w1)(hsz:(w.alloc (.cells #[fg] t)).heap.size<w1.heap.size)(hg:Blk (w.alloc (.cells #[fg] t)) w.heap.size t #[fg]) (ziJ:w1.ownsRow w.heap.size 4 1 (.slice (some ⟨w.heap.size+1,0,none⟩) N N) N (zP (List.replicate N false))) :
  Sea w ((w1.alloc (.cells #[.slice (some ⟨w.heap.size+1,0,none⟩) N N] 26)).alloc (.cells #[.slice none 0 0] 259)) w1.heap.size w.heap.size (w1.heap.size+1) (w.heap.size+1) N N fg (List.replicate N false) (.slice none 0 0) []:=by
 simp only [World.size_alloc] at hsz
 have h0:Ext w w1:=((Ext.refl w).alloc _).trans hx
 have hv:=Blk.new w1 26 #[.slice (some ⟨w.heap.size+1,0,none⟩) N N]
 have ht:=Blk.new (w1.alloc (.cells #[.slice (some ⟨w.heap.size+1,0,none⟩) N N] 26)) 259 #[.slice none 0 0]
 have hx2:Ext w1 ((w1.alloc (.cells #[.slice (some ⟨w.heap.size+1,0,none⟩) N N] 26)).alloc (.cells #[.slice none 0 0] 259)):=((Ext.refl w1).alloc _).alloc _
 refine⟨h0.trans hx2,hv.ext ((Ext.refl _).alloc _),zh ziJ hx2,⟨t,hg.ext (hx.trans hx2)⟩,by simpa using ht,World.ownsRow_nil _ _ _ _,fun k p v hk=>by simp at hk,by omega,Nat.le_refl _,by omega,by omega,by omega,fun b hb=>by simp [Value.ownBlock] at hb⟩
theorem sts_add {sts sts':List (Stp × Value)} {a:Int} {l:Nat} {fr:List Nat}(h:(fr=[]∧sts'=sts)∨(fr≠[]∧∃ v,sts'=sts++[(⟨a,l,fr⟩,v)])):sts'.map Prod.fst=addS (sts.map Prod.fst) a l fr:=by
 rcases h with ⟨h1,rfl⟩|⟨h1,v,rfl⟩
 ·rw [addS,if_pos h1]
 ·rw [addS,if_neg h1];simp
theorem Bfs.letters {d:Nat→Nat→List Nat} {start:List Nat} {goal:Nat→Bool} {L:List Nat} {N:Nat} {S:List Bool} {st:List Stp} {ws:List (List Nat)} {i j:Nat}(h:Bfs d start goal L N S st ws i j):∀ (m k:Nat),k≤m→k<st.length→∀ l∈ws.getD k [],l∈L:=by
 intro m
 induction m with
 |zero =>
  intro k hk hlt l hl
  obtain rfl:k=0:=by omega
  rw [h.zero _ (List.getElem?_eq_getElem hlt)] at hl
  cases hl
 |succ m ih =>
  intro k hk hlt l hl
  rcases h.word k _ (List.getElem?_eq_getElem hlt) with ⟨_,_,e⟩|⟨a,b,_,hak,_,hb,e⟩
  ·rw [e] at hl;cases hl
  ·rw [e] at hl
   rcases List.mem_append.1 hl with h1|h1
   ·exact ih a (by omega) (by omega) l h1
   ·rw [List.mem_singleton.1 h1];exact List.mem_of_getElem? hb
theorem Bfs.words {d:Nat→Nat→List Nat} {start:List Nat} {goal:Nat→Bool} {L:List Nat} {N:Nat} {S:List Bool} {st:List Stp} {ws:List (List Nat)} {i j:Nat}(h:Bfs d start goal L N S st ws i j)(hL:Rise L) {a l:Nat} {fr:List Nat}(ha:a<st.length)(hl:l∈L) (k:Nat) (p:Stp)(hp:(st++[⟨a,l,fr⟩])[k]?=some p) :
  (p.parent = -1∧(ws++[ws.getD a []++[l]]).getD k []=[])∨∃ b:Nat,p.parent=(b:Int)∧b<k∧p.letter<6∧(ws++[ws.getD a []++[l]]).getD k []=(ws++[ws.getD a []++[l]]).getD b []++[p.letter]:=by
 rcases Nat.lt_trichotomy k st.length with h1|h1|h1
 ·rw [List.getElem?_append_left h1] at hp
  rw [zeQ _ (by rw [h.wl];exact h1)]
  rcases h.word k p hp with ⟨_,h2,h3⟩|⟨b,c,h2,h3,_,h4,h5⟩
  ·exact Or.inl ⟨h2,h3⟩
  ·exact Or.inr ⟨b,h2,h3,hL.1 _ (List.mem_of_getElem? h4),by rw [zeQ _ (by rw [h.wl];omega)];exact h5⟩
 ·rw [h1,List.getElem?_append_right (Nat.le_refl _),Nat.sub_self] at hp
  obtain rfl:=Option.some.inj hp
  refine Or.inr ⟨a,rfl,by omega,hL.1 _ hl,?_⟩
  rw [h1,← h.wl,zgn,zeQ _ (by rw [h.wl];exact ha)]
 ·rw [List.getElem?_eq_none (by simp;omega)] at hp
  cases hp
theorem Frm.out {T S:Nat→Prop} {a b c:World}(h:Frm T a b) (k:Frm S b c)(hS:∀ x,S x→T x):Frm T a c:=h.trans (k.mono fun x _ hx=>hS x hx)
set_option maxHeartbeats 16000000 in
theorem zeP {w:World} {N kn kg m c q cL:Nat} {A AL:Option Addr} {capn capg:Array Value} {goal:Nat→Bool} {d:Nat→Nat→List Nat} {start L:List Nat} {D:Nat}
  (hA:zad w A m start) (hstart:∀ n∈start,n<N) (hm:m≤1099511627776) (hL:zad w AL q L) (hrise:Rise L) (hN:N≤16777216) (hD:D≤4096)
  (hinn:∀ args W,(callFunc kn args).run Tryz.prog W=.ok (.enter kn args) W) (hin:∀ args W,(callFunc kg args).run Tryz.prog W=.ok (.enter kg args) W)
  (hgoal:∀ W,Ext w W→∀ n,n<N→Calls Tryz.prog kg (#[.int .i64 (n:Nat)]++capg) W fun e W'=>e=.returned (.bool (goal n))∧Ext W W')
  (hd:∀ n l,n<N→l∈L→(d n l).length≤D∧∀ x∈d n l,x<N)
  (hnext:∀ W,Ext w W→∀ n l,n<N→l∈L→∀ (base:Nat) (A:Option Addr) (m c:Nat) (xs:List Nat),w.heap.size≤base→base≤W.heap.size→m≤1099511627776→W.ownsRow base 3 1 (.slice A m c) m (zS xs) →
   Calls Tryz.prog kn (#[.int .i64 (n:Nat),.int .i64 (l:Nat),.slice A m c]++capn) W fun e W'=>∃ A' c',e=.returned (.slice A' (xs++d n l).length c')∧W'.ownsRow base 3 1 (.slice A' (xs++d n l).length c') (xs++d n l).length (zS (xs++d n l))∧Frm (fun k=>(Value.slice A m c).ownBlock=some k) W W') :
  Calls Tryz.prog 182 #[.int .i64 (N:Nat),.slice A m c,.slice AL q cL,.func (.func kn) #[] capn,.func (.func kg) #[] capg] w (zJ w d start goal L):=by
 have HA:=za hA
 have Hstart:=za hstart
 have Hgoal:=za hgoal
 have Hnext:=za hnext
 have Hd:=za hd
 have hqm:q≤9223372036854775807:=hL.2.1
 clear hA hstart hgoal hnext hd
 go_enter Tryz.func182,Tryz.ntmps182
 have hwa:Ext w (w.alloc (.cells #[.func (.func kg) #[] capg] 169)):=(Ext.refl w).alloc _
 have hgx:=za (Blk.new w 169 #[.func (.func kg) #[] capg])
 go_upto_region 4 with (at_make;refine zar w _ rfl _ _ 26 rfl 4 _ 1 1 Tryz.underlying26 zbH _ _ N rfl rfl hwa (by omega) (by unfold maxLen;omega) ?_;intro w1 hext1 ziS hx1 hsz1)
 have ziT:w1.ownsRow w.heap.size 4 1 (.slice (some ⟨w.heap.size+1,0,none⟩) N N) N (zP (List.replicate N false)):=by
  have h:=ziS
  rw [World.size_alloc] at h
  simpa [zP,Value.cells,toList_madeCells_one] using h
 have hsea:=Sea.start hx1 hsz1 hgx.out ziT
 have hx2:Ext w ((w1.alloc (.cells #[.slice (some ⟨w.heap.size+1,0,none⟩) N N] 26)).alloc (.cells #[.slice none 0 0] 259)):=(hext1.alloc _).alloc _
 clear ziS ziT hx1 hsz1 hgx hext1 hwa
 generalize w1.heap.size+1=bt at *
 generalize w1.heap.size=bs at *
 generalize (w1.alloc (.cells #[.slice (some ⟨w.heap.size+1,0,none⟩) N N] 26)).alloc (.cells #[.slice none 0 0] 259)=w2 at *
 have hvs:=zge (List.replicate N false) start (fun n hn=>by have:=Hstart.out n hn;simpa using this)
 cases hg:(vis (List.replicate N false) start).2.any goal
 ·have Hg:=za hg
  have hB:=za (Bfs.begin_ (d:=d) (L:=L) (goal:=goal) Hstart.out (fun x hx=>by
   cases hgx:goal x
   ·rfl
   ·rw [List.any_eq_true.2 ⟨x,hx,hgx⟩] at hg;cases hg))
  have hC:=za ((Cnt.nil N).add (-1) 0 start)
  clear hg hvs
  go_wp2_with (go_at_call 244;refine (zgS (letter:=0) (parent := -1) hsea (HA.out.ext hx2) Hstart.out hm (by simp) hin Hgoal.out).mono ?_;rintro e w3 ⟨rfl,hx3,hsz3,vst,sts,hsea3,hcase⟩;rw [Hg.out];have hst:=za (sts_add hcase);clear hcase)
  go_loopw [15,17,18,20] (fun i l r x wr=>∃ (k:Nat) (S:List Bool) (vst:Value) (sts:List (Stp × Value)) (ws:List (List Nat)),i=.int .i64 k∧k≤sts.length∧sts.length≤N∧Sea w wr bs w.heap.size bt (w.heap.size+1) N N (.func (.func kg) #[] capg) S vst sts∧Hid (Bfs d start goal L N S (sts.map Prod.fst) ws k 0)∧Hid (Cnt S (sts.map Prod.fst)))
   (fun i _ _ _ _=>N+1 - (intOf i).toNat)
  case atStart =>
   simp only [List.map_nil] at hst
   have hB':=hB.out
   have hC':=hC.out
   rw [← hst.out] at hB' hC'
   exact⟨0,_,vst,sts,_,rfl,Nat.zero_le _,by have:=hC'.steps hB'.some_;rw [hB'.len] at this;simpa using this,hsea3,za hB',za hC'⟩
  case round =>
   clear hsea3 hst hB hC hx3 hsz3
   clear vst sts
   obtain⟨k,S,vst,sts,ws,rfl,hk,hsN,hS,hB,hC⟩:=hrel
   obtain⟨Av,cv,rfl⟩:=zi hS.dt
   have cT:=hS.vt.cell 0
   by_cases hlt:k<sts.length
   ·have hcast:((k:Int)<(sts.length:Int)):=by omega
    go_wp2
    go_loopw [17,18,20,35] (fun _ _ _ i2 wi=>∃ (j:Nat) (S:List Bool) (vst:Value) (sts:List (Stp × Value)) (ws:List (List Nat)),i2=.int .i64 j∧j≤q∧k<sts.length∧sts.length≤N∧Sea w wi bs w.heap.size bt (w.heap.size+1) N N (.func (.func kg) #[] capg) S vst sts∧Hid (Bfs d start goal L N S (sts.map Prod.fst) ws k j)∧Hid (Cnt S (sts.map Prod.fst)))
     (fun _ _ _ i2 _=>q - (intOf i2).toNat)
    case atStart=>exact⟨0,S,_,sts,ws,rfl,Nat.zero_le _,hlt,hsN,hS,hB,hC⟩
    case round =>
     clear hS hB hC cT hlt hcast hk hsN
     rename World=>wi
     obtain⟨j,S,vst,sts,ws,rfl,hj,hk,hsN,hS,hB,hC⟩:=hrel
     by_cases hjq:j<q
     ·obtain⟨gl,ol,l,rfl,hxl,hcl⟩:=hL.at_ hjq
      have cL:wi.cell? ⟨gl,ol+j,none⟩=some (.int .i64 (l:Nat)):=hS.ext.cell_some hcl
      have hlL:=za (List.mem_of_getElem? hxl.out)
      obtain⟨⟨⟨pp,pl,pn⟩,vk⟩,hpk⟩:∃ x,Hid (sts[k]?=some x):=⟨_,List.getElem?_eq_getElem hk⟩
      obtain⟨Ak,ck,rfl,hnk⟩:=hS.nd k _ vk hpk.out
      dsimp only at hnk hpk
      have hpm:=za (show (sts.map Prod.fst)[k]?=some ⟨pp,pl,pn⟩ by rw [List.getElem?_map,hpk.out];rfl)
      have hne:=List.length_pos_iff.2 (hB.out.some_ k _ hpm.out)
      have hnN:pn.length≤N:=by have:=hC.out.nodes hpm.out;rw [hB.out.len] at this;exact this
      have hsmall:=za (hB.out.small k _ hpm.out)
      dsimp only at hne hsmall
      have cV:wi.cell? ⟨bt,0,none⟩=some vst:=hS.vt.cell 0
      obtain⟨Av,cv,rfl⟩:=zi hS.dt
      obtain⟨gv,rfl⟩:∃ gv,Av=some ⟨gv,0,none⟩:=by
       rcases hS.dt.2 with ⟨_,hh⟩|⟨g,cap,cur,hv,_⟩
       ·omega
       ·exact⟨g,by injection hv⟩
      obtain⟨mk,hmk⟩:∃ mk,Hid (mk=pn.length):=⟨_,rfl⟩
      have cK:wi.cell? ⟨gv,k*3+2,none⟩=some (.slice Ak mk ck):=by
       rw [hS.dt.cellAt _ (by omega),hmk.out]
       exact (zgN hpk.out).2.2
      rw [← hmk.out] at hnk hne hnN
      obtain⟨gk,ok,_,rfl,_,_⟩:=hnk.at_ hne
      have Hnk:=za hnk
      have h1:=hS.vs.lt
      have h2:w.heap.size<wi.heap.size:=by obtain⟨t,hh⟩:=hS.vg;exact hh.lt
      have h3:=hS.vt.lt
      have h4:=hS.gs_lt.2
      have h0:=hS.ext.size
      have HnI:=za (show ∀ b,wi.heap.size≤b→∀ cs,wi.heap[b]?≠some (.cells cs 3 (0,0)) from fun b hb cs hc=>by
       have:=(Array.getElem?_eq_some_iff.1 hc).1
       omega)
      have hvl:=(hS.dt.lt gv rfl).2
      have HSea:=za (fun W (hW:Frm (fun b=>wi.heap.size≤b) wi W)=>hS.far hW (fun _ h=>h) h1 h2 h3 h4 (fun b hb=>by have:gv=b:=(by simpa [Value.ownBlock] using hb);omega) h0 (hS.nd.frm hW HnI.out))
      have hkc:(k:Int)<(sts.length:Int):=by omega
      have hjc:(j:Int)<(q:Int):=by omega
      clear hnk hcl hS h1 h3 h4
      go_wp2_with fail
      go_loopw [18,20,45] (fun v _ i3 wr=>∃ i:Nat,i3=.int .i64 i∧i≤mk∧wr.ownsRow wi.heap.size 3 1 v (reach d l (pn.take i)).length (zS (reach d l (pn.take i)))∧Frm (fun b=>wi.heap.size≤b) wi wr) (fun _ _ i3 _=>mk - (intOf i3).toNat)
      case atStart=>exact⟨0,rfl,Nat.zero_le _,World.ownsRow_nil _ _ _ _,Frm.refl _ _⟩
      case round =>
       obtain⟨i,rfl,hi,ziJ,hfr⟩:=hrel
       have hSr:=za (HSea.out wr hfr)
       have hsz:=hfr.size
       have hrl:(reach d l (pn.take i)).length≤1099511627776 - 4096:=by
        have e1:=reach_len (d:=d) (l:=l) (D:=D) (ns:=pn.take i) (fun n hn=>(Hd.out n l (hsmall.out n (List.mem_of_mem_take hn)) hlL.out).1)
        have e2:=Nat.mul_le_mul (show (pn.take i).length≤16777216 by rw [List.length_take];omega) hD
        omega
       obtain⟨A0,c0,rfl⟩:=zi ziJ
       clear cL cV cK
       by_cases hil:i<mk
       ·obtain⟨g',o',n,hA',hn,cN⟩:=(Hnk.out.frm hfr HnI.out).at_ hil
        obtain⟨rfl,rfl⟩:gk=g'∧ok=o':=by injection hA' with e;injection e with e1 e2;exact⟨e1,e2⟩
        have hnlt:=hsmall.out n (List.mem_of_getElem? hn.out)
        have hnx:=za (Hnext.out wr hSr.out.ext n l hnlt hlL.out wi.heap.size A0 _ c0 _ h0 hsz (by omega) ziJ)
        clear hA'
        go_wp2_with fail
        refine hnx.out.mono ?_
        rintro e w4 ⟨A',c',rfl,hown4,hf4⟩
        have hlow:=za (fun b (hb:(Value.slice A0 (reach d l (pn.take i)).length c0).ownBlock=some b)=>(ziJ.lt b hb).1)
        go_wp2_with fail
        go_roundw
        case rel=>exact⟨i+1,by go_num,by omega,by rw [reach_take hn.out];rw [List.length_append] at hown4 ⊢;exact hown4,hfr.out hf4 hlow.out⟩
        case measure=>simp [intOf];omega
       ·obtain rfl:i=mk:=by omega
        have htk:pn.take i=pn:=List.take_of_length_le (by have:=hmk.out;omega)
        rw [htk] at ziJ hrl ⊢
        have hrs:=za (fun x (hx:x∈reach d l pn)=>by
         obtain⟨n,hn,hx⟩:=zgz.1 hx
         exact (Hd.out n l (hsmall.out n hn) hlL.out).2 x hx)
        have hvis:=za (zgS (letter:=l) (parent:=(k:Int)) (c:=c0) hSr.out (zad.own ziJ) hrs.out (by omega) (by omega) hin Hgoal.out)
        cases hg:(vis S (reach d l pn)).2.any goal
        ·have Hg:=za hg
         have hB':=za (hB.out.step hrise hpm.out hxl.out (fun x=>zgz) hrs.out (fun x hx=>by
          cases hgx:goal x
          ·rfl
          ·rw [List.any_eq_true.2 ⟨x,hx,hgx⟩] at hg;cases hg))
         have hC':=za (hC.out.add (k:Int) l (reach d l pn))
         clear hg
         go_wp2_with fail
         refine hvis.out.mono ?_
         rintro e w4 ⟨rfl,hx4,hsz4,vst4,sts4,hsea4,hcase⟩
         rw [Hg.out]
         have hst:=za (sts_add hcase)
         have hlen:sts.length≤sts4.length:=by
          rcases hcase with ⟨_,rfl⟩|⟨_,v,rfl⟩<;>simp
         rw [← hst.out] at hB' hC'
         go_wp2_with fail
         go_roundw
         case rel=>exact⟨j+1,_,vst4,sts4,_,by go_num,by omega,by omega,(by have:=hC'.out.steps hB'.out.some_;rw [hB'.out.len] at this;simpa using this),hsea4,hB',hC'⟩
         case measure=>simp [intOf];omega
        ·have Hg:=za hg
         obtain⟨x,hx,hgx⟩:=List.any_eq_true.1 hg
         have hxr:=((zge S (reach d l pn) (fun n hn=>by rw [hB.out.len];exact hrs.out n hn)).2.2 x).1 hx
         obtain⟨n,hn,hxd⟩:=zgz.1 hxr.1
         have hF:=za (show Found d start goal L (ws.getD k []++[l]) from ⟨fun m hm=>(by
          rcases List.mem_append.1 hm with h|h
          ·exact hB.out.letters k k (Nat.le_refl _) (by simpa using hk) m h
          ·rw [List.mem_singleton.1 h];exact hlL.out),⟨x,(hB.out.goes k _ hpm.out n hn).snoc hxd,hgx⟩,fun u hu hlt y hy=>hB.out.found hrise (by simpa using hk) hxl.out hu hlt hy⟩)
         clear hg hgx hxr hxd
         go_wp2_with fail
         refine hvis.out.mono ?_
         rintro e w4 ⟨rfl,hx4,hsz4,vst4,sts4,hsea4,hcase⟩
         rw [Hg.out]
         obtain⟨_,v4,hst4⟩:(vis S (reach d l pn)).2≠[]∧∃ v,sts4=sts++[(⟨(k:Int),l,(vis S (reach d l pn)).2⟩,v)]:=by
          rcases hcase with ⟨h,_⟩|h
          ·rw [h] at hx;cases hx
          ·exact h
         have hl4:sts4.length=sts.length+1:=by rw [hst4];simp
         obtain⟨A4,c4,rfl⟩:=zi hsea4.dt
         have cV4:=hsea4.vt.cell 0
         have hpw:=za (show Calls Tryz.prog 245 #[.slice A4 sts4.length c4] w4 fun e w'=>e=.returned (.string (strOfNums (lbs (ws.getD k []++[l]))))∧Ext w4 w' by
          have key:=pathWord_any (ws:=ws++[ws.getD k []++[l]]) hsea4.dt rfl (by omega) (by omega) (fun i p v hi=>by
           have hm:(sts4.map Prod.fst)[i]?=some p:=by rw [List.getElem?_map,hi];rfl
           rw [hst4,List.map_append] at hm
           exact hB.out.words hrise (by simpa using hk) hlL.out i p hm)
          rw [hl4,Nat.add_sub_cancel,show sts.length=ws.length by have:=hB.out.wl;simpa using this.symm,zgn] at key
          rw [hl4,show sts.length=ws.length by have:=hB.out.wl;simpa using this.symm]
          exact key)
         clear hx hcase hst4 hl4
         go_wp2_with fail
         refine hpw.out.mono ?_
         rintro e w5 ⟨rfl,hx5⟩
         go_wp2_with fail
         go_ret2
         exact⟨hx4.trans hx5,Or.inl ⟨_,rfl,hF.out⟩⟩
     ·obtain rfl:j=q:=by omega
      have hql:=hL.1
      have hB2:=za (hB.out.row (by omega))
      go_wp2
      go_roundw
      case rel=>exact⟨k+1,S,vst,sts,ws,by go_num,by omega,hsN,hS,hB2,hC⟩
      case measure=>simp [intOf];omega
   ·obtain rfl:k=sts.length:=by omega
    have hlost:=za (show Lost d start goal L from fun v hv x hx=>hB.out.none (by simp) hv hx)
    have hxr:=hS.ext
    go_wp2
    go_ret2
    exact⟨hxr,Or.inr ⟨rfl,hlost.out⟩⟩
 ·have Hg:=za hg
  obtain⟨x,hx,hgx⟩:=List.any_eq_true.1 hg
  have hF:=za (show Found d start goal L [] from ⟨fun l hl=>(by cases hl),⟨x,.nil ((hvs.2.2 x).1 hx).1,hgx⟩,fun u _ hu=>by rw [zfl] at hu;omega⟩)
  clear hg hvs
  go_wp2_with (go_at_call 244;refine (zgS (letter:=0) (parent := -1) hsea (HA.out.ext hx2) Hstart.out hm (by simp) hin Hgoal.out).mono ?_;rintro e w' ⟨rfl,hx3,_⟩;rw [Hg.out])
  go_ret2
  exact⟨hx3,Or.inl ⟨[],rfl,hF.out⟩⟩
theorem stepB_low {es:List Edg} {k0 x j:Nat}(hf:Few k0 es)(hb:x.testBit j=true)(hl:∀ i,i<j→x.testBit i=false) (l:Int):zbO es x l=succ es j l|||zbO es (x - 2 ^ j) l:=by
 apply Nat.eq_of_testBit_eq
 intro k
 rw [Nat.testBit_or,Bool.eq_iff_iff,Bool.or_eq_true,zdi,zdi,zdu]
 constructor
 ·rintro ⟨e,he,⟨h1,h2⟩,h3⟩
  have:=hf e he
  by_cases e1:e.fr.toNat=j
  ·exact Or.inl ⟨e,he,⟨by omega,h1⟩,h3⟩
  ·refine Or.inr ⟨e,he,⟨h1,?_⟩,h3⟩
   rw [zcB hb hl,h2]
   simp [e1]
 ·rintro (⟨e,he,⟨h1,h2⟩,h3⟩|⟨e,he,⟨h1,h2⟩,h3⟩)
  ·exact⟨e,he,⟨h2,by rw [h1];exact hb⟩,h3⟩
  ·rw [zcB hb hl] at h2
   simp only [Bool.and_eq_true] at h2
   exact⟨e,he,⟨h1,h2.1⟩,h3⟩
theorem stepB_zero (es:List Edg) (l:Int):zbO es 0 l=0:=by
 apply Nat.eq_of_testBit_eq
 intro k
 rw [Nat.zero_testBit,Bool.eq_false_iff]
 intro h
 obtain⟨e,_,⟨_,h2⟩,_⟩:=(zdi es 0 l k).1 h
 simp at h2
theorem impl_step {es:List Edg} {bm k0 set l:Nat} {w:World}(hm:MovAt w bm es)(hT:Tab w)(hset:set<2 ^ 16)(hl:l<6)(hf:Few k0 es)(hk0:k0≤16) :
  Calls Tryz.prog 246 #[.pointer (some ⟨bm,0,none⟩),.int .i64 set,.int .i64 l] w fun e w'=>e=.returned (.int .i64 (zbO es set l:Nat))∧Ext w w':=by
 have hset':set<65536:=by simpa using hset
 have Hf:=za hf
 clear hf
 go_enter Tryz.func246,Tryz.ntmps246
 go_wp2
 go_loopw [1,7] (fun s v wr=>∃ x:Nat,s=.int .i64 x∧x<65536∧∃ y:Nat,v=.int .i64 y∧Sm y∧Hid (zbO es set l=y|||zbO es x l)∧Ext w wr) (fun s _ _=>(intOf s).toNat)
 case atStart=>exact⟨set,rfl,hset',0,rfl,by unfold Sm;omega,by simp [Hid],Ext.refl _⟩
 case round =>
  obtain⟨x,rfl,hx,y,rfl,hy,hyo,ziL⟩:=hrel
  by_cases h0:x=0
  ·subst h0
   go_wp2
   go_ret
   have h1:=hyo.out
   rw [stepB_zero,Nat.or_zero] at h1
   exact⟨zG (by rw [h1]),ziL⟩
  ·have hxs:Sm x:=by unfold Sm;omega
   obtain⟨j,hj,hj32,hjb,hjl,hand,hle⟩:=lowest h0 hxs
   have hj16:j<16:=by
    rcases Nat.lt_or_ge j 16 with h|h
    ·exact h
    ·have:=Nat.pow_le_pow_right (n:=2) (by omega) h
     omega
   have hp:=Nat.two_pow_pos j
   have hlow:=za (stepB_low Hf.out hjb hjl l)
   have c1:=hm j l hj16 hl
   have cM:∀ W,Ext wr W→W.cell? ⟨bm,j*6+l,none⟩=some (.int .i64 (succ es j l:Nat)):=fun W hW=>(ziL.trans hW).cell_some c1
   have hTs:=za (fun W (hW:Ext wr W)=>hT.ext (ziL.trans hW))
   have s1:=succ_sm Hf.out hk0 j l
   have bo:=za (zbR hy s1)
   have hne:((x:Int) != 0)=true:=by simp;omega
   have hb:=za (zdo (a:=x) (b:=x - 1) hxs (by unfold Sm;omega))
   have hi:=za (show ((x:Int) - 1)=((x - 1:Nat):Int) by omega)
   have ux:IntKind.u64.wrap (x:Int)=x:=by rw [IntKind.wrap_u64];omega
   have htz:=za (fun W (hW:Ext wr W)=>(show Calls Tryz.prog 276 #[.int .u64 x] W fun e w'=>e=.returned (.int .i64 j)∧W=w' by rw [← hj];exact tz x (by omega) h0 W (hTs.out W hW)))
   have hww:=Ext.refl wr
   have hx1:x - 2 ^ j<x:=by omega
   have hx2:x&&&(x - 1)=x - 2 ^ j:=hand
   have Hx2:=za hx2
   have hl6:(l:Int)<6:=by omega
   have hj16':(j:Int)<16:=by omega
   clear hj hjb hjl hand hx2 h0 hle c1
   generalize succ es j l=z at *
   go_wp2_with fail
   go_region_held3 (fun W=>Ext wr W) (first|assumption|(refine Ext.drew ?_;assumption)|(refine Ext.trans ?_ (by assumption);assumption)|(refine Ext.trans ?_ (by assumption);refine Ext.drew ?_;assumption)) ((go_at_call 276;refine (htz.out _ ?_).mono ?_;(first|assumption|(refine Ext.drew ?_;assumption));rintro e w' ⟨rfl,rfl⟩))
   go_wp2_with fail
   go_roundw
   case rel=>exact⟨x&&&(x - 1),by rw [hi.out,hb.out],by rw [Hx2.out];omega,y|||z,by rw [bo.out],hy.or s1,by unfold Hid;rw [hyo.out,hlow.out,Hx2.out,Nat.or_assoc],ziL.trans (by assumption)⟩
   case measure =>
    have:=hb.out
    rw [← hi.out] at this
    have h3:=Hx2.out
    simp [intOf]
    omega
theorem zfG (a:Nat):Rise (letters a 6):=by
 refine⟨fun l hl=>(mem_letters.1 hl).1,fun i j x y hx hy hij=>?_⟩
 have h1:(letters a 6).Pairwise (·<·):=List.Pairwise.filter _ List.pairwise_lt_range
 obtain⟨hi,rfl⟩:=List.getElem?_eq_some_iff.1 hx
 obtain⟨hj,rfl⟩:=List.getElem?_eq_some_iff.1 hy
 exact List.pairwise_iff_getElem.1 h1 i j hi hj hij
theorem Blk.ne {w:World} {a b:Nat} {t u:TypeId} {cs ds:Array Value}(h:Blk w a t cs)(h':Blk w b u ds)(ht:t≠u):a≠b:=by
 rintro rfl
 unfold Blk at h h'
 rw [h] at h'
 injection h' with h'
 injection h' with _ h2
 exact ht h2
theorem zcL {w:World} {g x:Nat}(h:Blk w g 3 #[.int .i64 (x:Nat)]):zad w (some ⟨g,0,none⟩) 1 [x]:=by
 refine⟨rfl,by omega,fun _=>⟨g,0,_,rfl,h,fun j y hj=>?_⟩⟩
 cases j with
 |zero =>
  obtain rfl:=Option.some.inj hj
  rw [h.cell];rfl
 |succ j=>simp at hj
theorem rising_pw {es:List Edg}:Rising es↔es.Pairwise (fun x y=>ltE x y=true):=by
 rw [List.pairwise_iff_getElem]
 constructor
 ·intro h i j hi hj hij
  exact h i j _ _ (List.getElem?_eq_getElem hi) (List.getElem?_eq_getElem hj) hij
 ·intro h a b x y hx hy hab
  obtain⟨ha,rfl⟩:=List.getElem?_eq_some_iff.1 hx
  obtain⟨hb,rfl⟩:=List.getElem?_eq_some_iff.1 hy
  exact h a b ha hb hab
theorem zhB (a k:Nat):(letters a k).Pairwise (·<·):=List.Pairwise.filter _ List.pairwise_lt_range
theorem asc_ext:∀ {l m:List Nat},l.Pairwise (·<·)→m.Pairwise (·<·)→(∀ x,x∈l↔x∈m)→l=m:=by
 intro l
 induction l with
 |nil =>
  intro m _ _ h
  cases m with
  |nil=>rfl
  |cons y s=>exact absurd ((h y).2 (by simp)) (by simp)
 |cons x r ih =>
  intro m hl hm h
  cases m with
  |nil=>exact absurd ((h x).1 (by simp)) (by simp)
  |cons y s =>
   rw [List.pairwise_cons] at hl hm
   have e:x=y:=by
    have h1:=(h x).1 (by simp)
    have h2:=(h y).2 (by simp)
    rcases List.mem_cons.1 h1 with h1|h1
    ·exact h1
    ·rcases List.mem_cons.1 h2 with h2|h2
     ·exact h2.symm
     ·have:=hl.1 y h2
      have:=hm.1 x h1
      omega
   subst e
   rw [ih hl.2 hm.2 fun z=>?_]
   have hz:=h z
   simp only [List.mem_cons] at hz
   constructor
   ·intro h1
    have:=hl.1 z h1
    rcases hz.1 (Or.inr h1) with h2|h2
    ·omega
    ·exact h2
   ·intro h1
    have:=hm.1 z h1
    rcases hz.2 (Or.inr h1) with h2|h2
    ·omega
    ·exact h2
def chE (es:List Edg) (q l:Nat):List Nat:=(es.filter fun e=>e.fr==(q:Int)&&e.le==(l:Int)).map fun e=>e.ta.toNat
theorem chE_cho {p:Nat} {es:List Edg}(hf:Few p es)(hp:p≤16)(hr:Rising es) (q l:Nat):chE es q l=letters (succ es q l) 32:=by
 refine asc_ext ?_ (zhB _ _) fun x=>?_
 ·have h1:=rising_pw.1 hr
  rw [chE,List.pairwise_map,List.pairwise_filter]
  refine h1.imp_of_mem fun {a b} ha hb hab h2 h3=>?_
  simp only [Bool.and_eq_true,beq_iff_eq] at h2 h3
  have:=ltE_iff.1 hab
  have:=hf a ha
  have:=hf b hb
  omega
 ·rw [zz,zdu,chE,List.mem_map]
  simp only [List.mem_filter,Bool.and_eq_true,beq_iff_eq]
  constructor
  ·rintro ⟨e,⟨h1,h2⟩,rfl⟩
   have:=hf e h1
   exact⟨by omega,e,h1,h2,rfl⟩
  ·rintro ⟨_,e,h1,h2,rfl⟩
   exact⟨e,⟨h1,h2⟩,rfl⟩
theorem chE_take {es:List Edg} {k:Nat} {x:Edg}(h:es[k]?=some x) (q l:Nat):chE (es.take (k+1)) q l=chE (es.take k) q l++if x.fr=(q:Int)∧x.le=(l:Int) then [x.ta.toNat] else []:=by
 rw [List.take_add_one,h]
 unfold chE
 rw [Option.toList_some,List.filter_append,List.map_append]
 congr 1
 by_cases hc:x.fr=(q:Int)∧x.le=(l:Int)
 ·rw [if_pos hc];simp [hc]
 ·rw [if_neg hc]
  have:(x.fr==(q:Int)&&x.le==(l:Int))=false:=by
   rw [Bool.eq_false_iff]
   intro h
   simp only [Bool.and_eq_true,beq_iff_eq] at h
   exact hc h
  simp [this]
theorem chE_len {p:Nat} {es:List Edg}(hf:Few p es)(hp:p≤16)(hr:Rising es) (q l k:Nat):(chE (es.take k) q l).length≤16:=by
 have h1:(chE (es.take k) q l).Sublist (chE es q l):=((List.take_sublist k es).filter _).map _
 refine Nat.le_trans h1.length_le (Nat.le_trans (zgB (p:=p) ?_ ?_) hp)
 ·rw [chE_cho hf hp hr];exact zeX _ _
 ·intro x hx
  obtain⟨e,he,rfl⟩:=List.mem_map.1 hx
  have:=hf e (List.mem_filter.1 he).1
  omega
theorem ret_one {w W:World} {y g:Nat}(hx:Ext w W)(hb:Blk W g 3 #[.int .i64 (y:Nat)])(hg:w.heap.size≤g):zbB w [y] (.returned (.slice (some ⟨g,0,none⟩) 1 1)) W:=
 ⟨some ⟨g,0,none⟩,1,rfl,⟨rfl,.inr ⟨g,1,_,rfl,hg,hb,by simp [zS,maxLen]⟩⟩,hx⟩
theorem zhm {PA AA:Option Addr} {pn pc an ac:Nat} {sv:Value} {L K G:Int} {ss:List Sys} {us:List Aut} {w:World} {i q l:Nat} {m:Mem}(h:zeG w PA pn AA an ss us)(hok:zdl ss us)(hm:(zaO ss us)[i]?=some m)(hq:q<m.1)(hl:l<6) :
  Calls Tryz.prog 283 #[.agg #[.slice PA pn pc,.slice AA an ac,sv,.int .i64 L,.int .i64 K,.int .i64 G],.int .i64 i,.int .i64 q,.int .i64 l] w (zbB w (m.2 q l)):=by
 have hw1:Ext w (w.alloc (.cells #[.slice PA pn pc,.slice AA an ac,sv,.int .i64 L,.int .i64 K,.int .i64 G] 168)):=(Ext.refl w).alloc _
 have hb1:=Blk.new w 168 #[.slice PA pn pc,.slice AA an ac,sv,.int .i64 L,.int .i64 K,.int .i64 G]
 have HN:=za (fun W (hW:Ext w W)=>h.ext hW)
 have hpn:Hid (pn=ss.length):=by obtain⟨_,_,h1⟩:=h.sys;exact h1.1
 have han:Hid (an=us.length):=by obtain⟨_,_,h1⟩:=h.aut;exact h1.1
 have hp3:pn≤3:=by rw [hpn.out];exact hok.few
 have ha2:an≤2:=by rw [han.out];exact hok.few'
 by_cases hip:i<pn
 ·have hs:ss[i]?=some (ss[i]'(by rw [← hpn.out];exact hip)):=List.getElem?_eq_getElem _
  generalize ss[i]'(by rw [← hpn.out];exact hip)=s at hs
  obtain rfl:m=zdk s:=by
   rw [zaO,List.getElem?_append_left (by simp;have:=hpn.out;omega),List.getElem?_map,hs] at hm
   exact (Option.some.inj hm).symm
  have hv:=hok.sys s (List.mem_of_getElem? hs)
  obtain⟨hal,hst,_,hris⟩:=valid_iff.1 hv
  obtain⟨p,hp,hp1,hp2,hf⟩:=zdQ hv
  obtain⟨al,ha⟩:∃ al:Nat,Hid (s.al=al):=⟨s.al.toNat,by unfold Hid;omega⟩
  have hsm:Sm al:=by have:=ha.out;unfold Sm;omega
  have hres:=za (show (zdk s).2 q l=if al.testBit l then chE s.edges q l else [q] by
   rw [chE_cho hf hp2 hris]
   simp only [zdk,cho]
   rw [ha.out,Int.toNat_natCast])
  have Hs:=za hs
  have H16:=za (chE_len hf hp2 hris q l)
  have Hf:=za hf
  clear hs hv hal hst hris hf hm hok h hq
  rw [hres.out]
  cases hb:al.testBit l
  ·have Hb:=za hb
   clear hb
   go_enter Tryz.func283,Tryz.ntmps283
   go_upto_region 1 with fail
   generalize w.alloc (.cells #[.slice PA pn pc,.slice AA an ac,sv,.int .i64 L,.int .i64 K,.int .i64 G] 168)=w1 at *
   have c0:=hb1.cell
   obtain⟨lo,hi,hsl⟩:=(HN.out w1 hw1).sys
   obtain⟨b,o,s',B,n,c',rfl,_,_,hs',e0,e1,e2,hsx⟩:=hsl.sys hip
   obtain rfl:s=s':=by have:=hs'.out;rw [Hs.out] at this;exact Option.some.inj this
   rw [ha.out] at e0
   clear e1 hsl hsx
   go_wp2_with (go_at_call 140;with_reducible refine (zab al l hsm _ (by omega)).mono ?_;rw [Hb.out];rintro e w' ⟨rfl,rfl⟩)
   go_ret
   exact ret_one (hw1.alloc _) (Blk.new _ _ _) hw1.size
  ·have Hb:=za hb
   clear hb
   simp only [if_true]
   go_enter Tryz.func283,Tryz.ntmps283
   go_upto_region 1 with fail
   generalize w.alloc (.cells #[.slice PA pn pc,.slice AA an ac,sv,.int .i64 L,.int .i64 K,.int .i64 G] 168)=w1 at *
   have c0:=hb1.cell
   obtain⟨lo,hi,hsl⟩:=(HN.out w1 hw1).sys
   obtain⟨b,o,s',B,n,c',rfl,_,_,hs',e0,e1,e2,hsx⟩:=hsl.sys hip
   obtain rfl:s=s':=by have:=hs'.out;rw [Hs.out] at this;exact Option.some.inj this
   rw [ha.out] at e0
   have Hnl:=za hsx.1
   have HR:=za (fun W (hW:Ext w1 W)=>hsx.2.ext hW)
   have hnm:=hsx.2.len
   clear e1 hsl hsx
   go_upto_region 6 with (go_at_call 140;with_reducible refine (zab al l hsm _ (by omega)).mono ?_;rw [Hb.out];rintro e w' ⟨rfl,rfl⟩)
   have hx2:=(Ext.refl w1).alloc (.cells #[] 3)
   have hsz2:w.heap.size≤w1.heap.size:=hw1.size
   have ziT:=World.ownsRow_lit (base:=w1.heap.size) (e:=3) (size:=1) w1 #[] 0 (Nat.le_refl _) (by unfold maxLen;omega) rfl
   have c0':=(hb1.ext hx2).cell
   have e2':=hx2.cell_some e2
   generalize w1.alloc (.cells #[] 3)=w2 at *
   clear c0 e0 e2
   go_wp2_with fail
   go_loopw [9,11] (fun v j wr=>∃ k:Nat,k≤n∧j=.int .i64 k∧wr.ownsRow w1.heap.size 3 1 v (chE (s.edges.take k) q l).length (zS (chE (s.edges.take k) q l))∧Ext w1 wr) (fun _ j _=>n - (intOf j).toNat)
   case atStart=>exact⟨0,Nat.zero_le _,rfl,ziT,hx2⟩
   case round =>
    clear ziT c0' e2' hx2
    obtain⟨k,hk,rfl,ziJ,hx⟩:=hrel
    by_cases hlt:k<n
    ·obtain⟨b',o',x,rfl,_,_,hxx,d0,d1,d2⟩:=(HR.out wr hx).edge hlt
     obtain⟨⟨f0,f1⟩,⟨l0,l1⟩,⟨t0,t1⟩⟩:=Hf.out x (List.mem_of_getElem? hxx.out)
     have Htk:=za (chE_take hxx.out q l)
     have hck':=H16.out k
     by_cases hfr:x.fr=(q:Int)
     ·by_cases hle:x.le=(l:Int)
      ·obtain⟨t,ht⟩:∃ t:Nat,x.ta=t:=⟨x.ta.toNat,by omega⟩
       rw [hfr] at d0
       rw [hle] at d1
       rw [ht] at d2
       have Htk2:=za (show chE (s.edges.take (k+1)) q l=chE (s.edges.take k) q l++[t] by rw [Htk.out,if_pos ⟨hfr,hle⟩,ht];rfl)
       clear hfr hle f0 f1 l0 l1 t0 t1 ht Htk
       generalize chE (s.edges.take k) q l=cs at *
       go_wp2_with (at_builtin;refine zak w1 wr rfl _ _ _ rfl 3 _ 1 8 Tryz.underlying128 zah rfl (by decide) u9 _ _ _ _ rfl rfl hx ziJ rfl (zaR _) (by unfold maxLen;omega) (by omega) ?_;intro v' w5 hext5 ziV hg5 hat5)
       go_roundw
       case rel=>exact⟨k+1,by omega,by go_num,by rw [Htk2.out,List.length_append,zdG];exact ziV,hext5⟩
       case measure=>simp [intOf];omega
      ·have hne:(x.le==(l:Int))=false:=by simp;omega
       have Htk2:=za (show chE (s.edges.take (k+1)) q l=chE (s.edges.take k) q l by rw [Htk.out,if_neg (fun h=>hle h.2),List.append_nil])
       rw [hfr] at d0
       clear hfr hle f0 f1 l0 l1 t0 t1 Htk
       go_wp2_with fail
       go_roundw
       case rel=>exact⟨k+1,by omega,by go_num,by rw [Htk2.out];exact ziJ,hx⟩
       case measure=>simp [intOf];omega
     ·have hne:(x.fr==(q:Int))=false:=by simp;omega
      have Htk2:=za (show chE (s.edges.take (k+1)) q l=chE (s.edges.take k) q l by rw [Htk.out,if_neg (fun h=>hfr h.1),List.append_nil])
      clear hfr f0 f1 l0 l1 t0 t1 Htk
      go_wp2_with fail
      go_roundw
      case rel=>exact⟨k+1,by omega,by go_num,by rw [Htk2.out];exact ziJ,hx⟩
      case measure=>simp [intOf];omega
    ·obtain rfl:n=k:=by omega
     have ziM:=za (show wr.ownsRow w.heap.size 3 1 u9 (chE s.edges q l).length (zS (chE s.edges q l)) by
      rw [List.take_of_length_le (by have:=Hnl.out;omega)] at ziJ
      exact zq ziJ hsz2)
     obtain⟨A5,c5,rfl⟩:=zi ziM.out
     have hxw:=hw1.trans hx
     clear ziJ
     go_wp2
     go_ret
     exact⟨_,_,rfl,ziM.out,hxw⟩
 ·obtain⟨j,hj⟩:∃ j,i=pn+j:=⟨i - pn,by omega⟩
  subst hj
  have hmj:us[j]?.map zbf=some m:=by
   rw [zaO,List.getElem?_append_right (by simp;have:=hpn.out;omega),List.getElem?_map] at hm
   rw [← hm]
   congr 2
   simp;have:=hpn.out;omega
  obtain⟨a,ha,rfl⟩:=Option.map_eq_some_iff.1 hmj
  have hja:j<an:=by rw [han.out];exact (List.getElem?_eq_some_iff.1 ha).1
  have hva:=za (hok.aut a (List.mem_of_getElem? ha))
  have Ha:=za ha
  have Hq:=za (show q<a.next.length from hq)
  clear hm hmj ha hok h hq
  change Calls _ _ _ _ (zbB w [aGo a q l])
  go_enter Tryz.func283,Tryz.ntmps283
  go_upto_region 1 with fail
  generalize w.alloc (.cells #[.slice PA pn pc,.slice AA an ac,sv,.int .i64 L,.int .i64 K,.int .i64 G] 168)=w1 at *
  have c0:=hb1.cell
  obtain⟨lo,hi,hal⟩:=(HN.out w1 hw1).aut
  obtain⟨b,o,a',B,m,c,B',m',c',rfl,ha',e0,e1,e2,hat⟩:=hal.aut hja
  obtain rfl:a=a':=by have:=ha'.out;rw [Ha.out] at this;exact Option.some.inj this
  have hge:¬ ((pn+j:Nat):Int)<(pn:Int):=by omega
  have hsb:((pn+j:Nat):Int) - (pn:Int)=(j:Int):=by omega
  have Hat:=za hat
  clear hal hat
  go_wp2_with (go_at_call 222;with_reducible refine (zdh Hat.out hva.out Hq.out hl).mono ?_;rintro e w5 ⟨rfl,hx5⟩)
  go_ret
  exact ret_one ((hw1.trans hx5).alloc _) (Blk.new _ _ _) ((hw1.trans hx5).size)
theorem zfV (n:Nat)(h:n<9223372036854775808):IntKind.i64.wrap (n:Int)=(n:Int):=by rw [IntKind.wrap_i64];omega
theorem chs_fst (ms:List Mem) (x l:Nat):(chs ms x l).map Prod.fst=ms.map Prod.fst:=by
 induction ms with
 |nil=>rfl
 |cons m r ih=>simp [chs,ih]
theorem zdl.choices {ss:List Sys} {us:List Aut}(h:zdl ss us) {m:Mem}(hm:m∈zaO ss us) {q l:Nat}(hq:q<m.1)(hl:l<6):(∀ x∈m.2 q l,x<m.1)∧(m.2 q l).length≤m.1:=by
 refine⟨(h.ok m hm).2 q l hq hl,?_⟩
 rcases List.mem_append.1 hm with h1|h1
 ·obtain⟨s,hs,rfl⟩:=List.mem_map.1 h1
  exact cho_len (zbQ (h.sys s hs)) hq
 ·obtain⟨a,ha,rfl⟩:=List.mem_map.1 h1
  have:=(zl (h.aut a ha)).2.1.1
  simp only [zbf]
  simpa using this
theorem zdl.fwd_ {ss:List Sys} {us:List Aut}(h:zdl ss us) (x:Nat) {l:Nat}(hl:l<6) (k:Nat):(fwd ((chs (zaO ss us) x l).take k)).length≤1048576∧∀ y∈fwd ((chs (zaO ss us) x l).take k),y<1048576:=by
 have hc:∀ c∈(chs (zaO ss us) x l).take k,(∀ y∈c.2,y<c.1)∧c.2.length≤c.1:=by
  intro c hc
  obtain⟨i,hi⟩:=List.getElem?_of_mem (List.mem_of_mem_take hc)
  have hil:=(List.getElem?_eq_some_iff.1 hi).1
  rw [zfq] at hil
  have hm:(zaO ss us)[i]?=some (zaO ss us)[i]:=List.getElem?_eq_getElem hil
  rw [chs_get hm] at hi
  obtain rfl:=Option.some.inj hi
  have hmm:=List.getElem_mem hil
  exact h.choices hmm (Nat.mod_lt _ (h.ok _ hmm).1) hl
 have hp:=(h.total (((chs (zaO ss us) x l).take k).map Prod.fst) (by rw [← zeY,← chs_fst _ x l];exact (List.take_sublist _ _).map _)).2
 refine⟨Nat.le_trans (fwd_len fun c hc'=>(hc c hc').2) hp,fun y hy=>Nat.lt_of_lt_of_le (fwd_lt (fun c hc'=>(hc c hc').1) y hy) hp⟩
theorem spec_l4Nexts {PA AA SA TA:Option Addr} {pn pc an ac n sc tc lo hi lo' hi':Nat} {sv:Value} {L K G:Int} {ss:List Sys} {us:List Aut} {w:World} {x l:Nat}(h:zeG w PA pn AA an ss us)(hok:zdl ss us)(hS:Lst zbb w lo hi SA (szs ss us))(hT:Lst zbb w lo' hi' TA (dec (szs ss us) x))(hn:(szs ss us).length=n)(hl:l<6) :
  Calls Tryz.prog 266 #[.agg #[.slice PA pn pc,.slice AA an ac,sv,.int .i64 L,.int .i64 K,.int .i64 G],.slice SA n sc,.slice TA n tc,.int .i64 l] w (zbB w (pnx (zaO ss us) x l)):=by
 have hw1:Ext w (w.alloc (.cells #[.slice PA pn pc,.slice AA an ac,sv,.int .i64 L,.int .i64 K,.int .i64 G] 168)):=(Ext.refl w).alloc _
 have hb1:=Blk.new w 168 #[.slice PA pn pc,.slice AA an ac,sv,.int .i64 L,.int .i64 K,.int .i64 G]
 have HN:=za (fun W (hW:Ext w W)=>h.ext hW)
 have HS:=za (fun W (hW:Ext w W)=>hS.ext zbb.ok hW)
 have HT:=za (fun W (hW:Ext w W)=>hT.ext zbb.ok hW)
 have Hok:=za hok
 have hn5:n≤5:=by rw [← hn];exact hok.len
 have hKl:(chs (zaO ss us) x l).length=n:=by rw [zfq,← hn,← zeY,List.length_map]
 have Hfw:=za (hok.fwd_ x hl)
 have Hget:=za (show ∀ k,k<n→∃ m,(zaO ss us)[k]?=some m∧(szs ss us)[k]?=some m.1∧(dec (szs ss us) x)[k]?=some (x / zB ((zaO ss us).drop (k+1)) % m.1)∧(chs (zaO ss us) x l)[k]?=some (m.1,m.2 (x / zB ((zaO ss us).drop (k+1)) % m.1) l)∧1≤m.1∧m.1≤16 from fun k hk=>by
  have hkl:k<(zaO ss us).length:=by rw [← zfq _ x l,hKl];exact hk
  have hm:(zaO ss us)[k]?=some (zaO ss us)[k]:=List.getElem?_eq_getElem hkl
  have hz:(szs ss us)[k]?=some ((zaO ss us)[k]).1:=by rw [← zeY,List.getElem?_map,hm];rfl
  refine⟨_,hm,hz,?_,chs_get hm,hok.le16 _ (List.mem_of_getElem? hz)⟩
  rw [zhX hz,← zeY,← List.map_drop]
  rfl)
 have Hfin:=za (fwd_pnx (zaO ss us) x l)
 have Hch:=za (fun (m:Mem) (hm:m∈zaO ss us) (q l:Nat) (hq:q<m.1) (hl:l<6)=>hok.choices hm hq hl)
 clear h hS hT hok
 generalize hK:chs (zaO ss us) x l=KK at *
 have Hlen:=za hKl
 have HSl:=za hn
 clear hK hKl hn
 go_enter Tryz.func266,Tryz.ntmps266
 go_upto_region 1 with fail
 generalize w.alloc (.cells #[.slice PA pn pc,.slice AA an ac,sv,.int .i64 L,.int .i64 K,.int .i64 G] 168)=w1 at *
 go_upto_region 2 with fail
 have hx2:=(Ext.refl w1).alloc (.cells #[.int .i64 0] 3)
 have hsz2:w.heap.size≤w1.heap.size:=hw1.size
 have ziT:=World.ownsRow_lit (base:=w1.heap.size) (e:=3) (size:=1) w1 #[.int .i64 0] 1 (Nat.le_refl _) (by unfold maxLen;omega) rfl
 generalize hg1:(some ⟨w1.heap.size,0,none⟩:Option Addr)=A1 at *
 clear hg1
 generalize w1.alloc (.cells #[.int .i64 0] 3)=w2 at *
 go_wp2_with fail
 go_loopw [9,10,11,12,13,14] (fun v i _ _ _ _ wr=>∃ (k:Nat) (out:List Nat),i=.int .i64 k∧k≤n∧Hid (out=fwd (KK.take k))∧wr.ownsRow w1.heap.size 3 1 v out.length (zS out)∧Ext w1 wr) (fun _ i _ _ _ _ _=>n - (intOf i).toNat)
 case atStart=>exact⟨0,[0],rfl,Nat.zero_le _,rfl,by simpa [zS] using ziT,hx2⟩
 case round =>
  clear ziT hx2
  obtain⟨k,out,rfl,hk,hout,ziJ,hx⟩:=hrel
  obtain⟨A0,c0,rfl⟩:=zi ziJ
  by_cases hlt:k<n
  ·obtain⟨m,hm,hz,hd,hc,hm1,hm16⟩:=Hget.out k hlt
   have Hm:=za hm
   have Hc:=za hc
   obtain⟨ho1,ho2⟩:=Hfw.out k
   rw [← hout.out] at ho1 ho2
   have Ho2:=za ho2
   obtain⟨q,hq⟩:∃ q:Nat,Hid (x / zB ((zaO ss us).drop (k+1)) % m.1=q):=⟨_,rfl⟩
   have hqm:q<m.1:=by rw [← hq.out];exact Nat.mod_lt _ hm1
   obtain⟨hcs1,hcs2⟩:=Hch.out m (List.mem_of_getElem? hm) q l hqm hl
   have Hcs1:=za hcs1
   rw [hq.out] at hd
   have Hc2:=za (show KK[k]?=some (m.1,m.2 q l) by rw [Hc.out,hq.out])
   obtain⟨sz,hsz⟩:∃ sz:Nat,Hid (m.1=sz):=⟨_,rfl⟩
   obtain⟨cs,hcs⟩:∃ cs:List Nat,Hid (m.2 q l=cs):=⟨_,rfl⟩
   have hkl:k<(dec (szs ss us) x).length:=(List.getElem?_eq_some_iff.1 hd).1
   have hww:=hw1.trans hx
   obtain⟨bt,ot,q',rfl,_,_,hq',hct⟩:=(HT.out wr hww).num hkl
   obtain rfl:q=q':=by have:=hq'.out;rw [hd] at this;exact Option.some.inj this
   obtain⟨bz,oz,z',rfl,_,_,hz',hcz⟩:=(HS.out wr hww).num (List.getElem?_eq_some_iff.1 hz).1
   obtain rfl:m.1=z':=by have:=hz'.out;rw [hz] at this;exact Option.some.inj this
   have Hqm:=za hqm
   rw [hsz.out] at hcz hm1 hm16 hcs2
   rw [hcs.out] at hcs2 Hcs1
   rw [hsz.out] at Hcs1 Hc2
   rw [hcs.out] at Hc2
   have hstep:=za (show fwd (KK.take (k+1))=out.flatMap fun o=>cs.map fun y=>o*sz+y by
    rw [List.take_add_one,Hc2.out,Option.toList_some,zid,← hout.out])
   have CT:∀ W,Ext wr W→W.cell? ⟨bt,ot+k,none⟩=some (.int .i64 (q:Nat)):=fun W hW=>hW.cell_some hct
   have CB:∀ W,Ext wr W→∀ j,W.cell? ⟨w.heap.size,j,none⟩=#[Value.slice PA pn pc,.slice AA an ac,sv,.int .i64 L,.int .i64 K,.int .i64 G][j]?:=fun W hW=>((hb1.ext hx).ext hW).cell
   have CC:=za (show ∀ W,Ext wr W→Calls Tryz.prog 283 #[.agg #[.slice PA pn pc,.slice AA an ac,sv,.int .i64 L,.int .i64 K,.int .i64 G],.int .i64 k,.int .i64 q,.int .i64 l] W (zbB W cs) from fun W hW=>by
    have:=zhm (pc:=pc) (ac:=ac) (sv:=sv) (L:=L) (K:=K) (G:=G) (HN.out W (hww.trans hW)) Hok.out Hm.out Hqm.out hl
    rw [hcs.out] at this
    exact this)
   have hki:(k:Int)<(n:Int):=by omega
   have hrr:=Ext.refl wr
   clear hct hz' hq' hz hd hc hm hqm hcs1 ho2 Hqm
   go_upto_region 5 with fail
   refine uR (fun X=>Ext wr X) [7] (zu.of [0,1,2,3,4,5,6,7,8]) ?_
   refine uQ ?_
   refine zb fun K hK=>?_
   go_simp
   refine (CC.out _ hrr.drew).mono ?_
   rintro e w4 ⟨A4,c4,rfl,hown4,hx4⟩
   refine hK.out _ _ ?_
   refine pT ?_
   refine uQ ?_
   refine zf ?_
   have hw4:Ext wr w4:=hrr.drew.trans hx4
   have hL4:=Lst.own_nats hown4
   have hLo:=(Lst.own_nats ziJ).ext zbb.ok hw4
   have hcz4:=hw4.cell_some hcz
   clear CT CB CC hrr hown4 hx4 hcz
   go_upto_region 7 with fail
   have hx5:=(Ext.refl w4).alloc (.cells #[] 3)
   have ziV:=World.ownsRow_lit (base:=w4.heap.size) (e:=3) (size:=1) w4 #[] 0 (Nat.le_refl _) (by unfold maxLen;omega) rfl
   generalize hg1:(some ⟨w4.heap.size,0,none⟩:Option Addr)=A5 at *
   clear hg1
   generalize w4.alloc (.cells #[] 3)=w5 at *
   have hLo':=za (fun W (hW:Ext w4 W)=>hLo.ext zbb.ok hW)
   have hL4':=za (fun W (hW:Ext w4 W)=>hL4.ext zbb.ok hW)
   have Hsz:=za (fun W (hW:Ext w4 W)=>hW.cell_some hcz4)
   clear hLo hL4 hcz4
   go_wp2_with fail
   go_loopw [12,13,14] (fun v i _ wr=>∃ (a:Nat) (nx:List Nat),i=.int .i64 a∧a≤out.length∧Hid (nx=(out.take a).flatMap fun o=>cs.map fun y=>o*sz+y)∧wr.ownsRow w4.heap.size 3 1 v nx.length (zS nx)∧Ext w4 wr) (fun _ i _ _=>out.length - (intOf i).toNat)
   case atStart=>exact⟨0,[],rfl,Nat.zero_le _,by simp [Hid],by simpa [zS] using ziV,hx5⟩
   case round =>
    clear ziV hx5
    obtain⟨a,nx,rfl,ha,hnx,ziV,hx5⟩:=hrel
    by_cases hla:a<out.length
    ·obtain⟨bo,oo,o,rfl,_,_,ho,hco⟩:=(hLo'.out _ hx5).num hla
     have holt:=Ho2.out o (List.mem_of_getElem? ho.out)
     have hnl:nx.length≤16777216:=by
      rw [hnx.out]
      refine Nat.le_trans (flat_len (k:=cs.length) fun z _=>by simp) ?_
      rw [List.length_take]
      have:=Nat.mul_le_mul (show min a out.length≤1048576 by omega) (show cs.length≤16 by omega)
      omega
     have hsn:=za (show ((out.take (a+1)).flatMap fun o=>cs.map fun y=>o*sz+y)=nx++cs.map fun y=>o*sz+y by
      rw [List.take_add_one,ho.out,hnx.out];simp)
     clear hco
     go_wp2_with fail
     go_loopw [12,14] (fun v i wr=>∃ (b:Nat) (nb:List Nat),i=.int .i64 b∧b≤cs.length∧Hid (nb=nx++(cs.take b).map fun y=>o*sz+y)∧wr.ownsRow w4.heap.size 3 1 v nb.length (zS nb)∧Ext w4 wr) (fun _ i _=>cs.length - (intOf i).toNat)
     case atStart=>exact⟨0,nx,rfl,Nat.zero_le _,by simp [Hid],ziV,hx5⟩
     case round =>
      clear ziV hx5
      obtain⟨b,nb,rfl,hb,hnb,ziV,hx5⟩:=hrel
      by_cases hlb:b<cs.length
      ·obtain⟨bc,oc,y,rfl,_,_,hy,hcy⟩:=(hL4'.out _ hx5).num hlb
       have hylt:=Hcs1.out y (List.mem_of_getElem? hy.out)
       have hnbl:nb.length≤16777216+16:=by rw [hnb.out,List.length_append,List.length_map,List.length_take];omega
       have hmul:o*sz≤1048576*16:=Nat.mul_le_mul (by omega) hm16
       obtain⟨os,hos⟩:∃ z:Nat,Hid (o*sz=z):=⟨_,rfl⟩
       have hosi:(o:Int)*(sz:Int)=(os:Int):=by rw [← hos.out];exact (Int.natCast_mul o sz).symm
       rw [hos.out] at hmul
       have hsn3:=za (show (nx++(cs.take (b+1)).map fun y=>o*sz+y)=nb++[os+y] by
        rw [List.take_add_one,hy.out,hnb.out,← hos.out];simp)
       have C1:∀ W,Ext wr W→W.cell? ⟨bo,oo+a,none⟩=some (.int .i64 (o:Nat)):=fun W hW=>(hLo'.out W (hx5.trans hW)).num2 ho.out
       have C2:∀ W,Ext wr W→W.cell? ⟨bz,oz+k,none⟩=some (.int .i64 (sz:Nat)):=fun W hW=>Hsz.out W (hx5.trans hW)
       have C3:∀ W,Ext wr W→W.cell? ⟨bc,oc+b,none⟩=some (.int .i64 (y:Nat)):=fun W hW=>hW.cell_some hcy
       have hai:(a:Int)<(out.length:Int):=by omega
       have hbi:(b:Int)<(cs.length:Int):=by omega
       have hww5:=Ext.refl wr
       clear hcy
       go_upto_region 13 with fail
       refine uR (fun X=>Ext wr X) [15,16] (zu.of [0,1,2,3,4,5,6,7,8,9,10,11,12,13,14,15,16,17]) ?_
       refine uQ ?_
       refine ze fun K hK=>?_;go_simp
       refine hK.out _ _ (hww5.drew.alloc _) ?_
       refine pT ?_
       refine zb fun K hK=>?_
       refine zbN w4 wr.drew _ _ _ rfl 3 _ 1 8 Tryz.underlying128 zah rfl (by decide) u12 nb.length (zS nb) _ _ rfl rfl (hx5.drew).size ziV rfl (zaR _) (by unfold maxLen;omega) (by omega) ?_
       intro g5 cap5 w6 hown6 hg6 hat6 hlt6
       have hwr:IntKind.i64.wrap (IntKind.i64.wrap (os:Int)+(y:Int))=((os+y:Nat):Int):=by rw [zfV os (by omega),← Int.natCast_add,zfV (os+y) (by omega)]
       rw [hwr] at hown6
       refine hK.out _ _ ?_
       refine pT ?_
       refine uQ ?_
       refine zf ?_
       have hx6:Ext w4 w6:=hx5.drew.grown hg6 (fun q' hq'=>(ziV.lt q' hq').1)
       go_wp2_with fail
       go_roundw
       case rel=>exact⟨b+1,nb++[os+y],by go_num,by omega,by unfold Hid;rw [hsn3.out],by rw [List.length_append,zdG];exact hown6,hx6⟩
       case measure=>simp [intOf];omega
      ·obtain rfl:b=cs.length:=by omega
       have hfin2:=za (show nb=nx++cs.map fun y=>o*sz+y by rw [hnb.out,List.take_length])
       go_wp2_with fail
       go_roundw
       case rel=>exact⟨a+1,nb,by go_num,by omega,by unfold Hid;rw [hsn.out,hfin2.out],ziV,hx5⟩
       case measure=>simp [intOf];omega
    ·obtain rfl:a=out.length:=by omega
     have hfin3:=za (show nx=fwd (KK.take (k+1)) by rw [hstep.out,hnx.out,List.take_length])
     have hx6:=hx.trans (hw4.trans hx5)
     have hown6:=zq ziV (show w1.heap.size≤w4.heap.size from (hx.trans hw4).size)
     go_wp2_with fail
     go_roundw
     case rel=>exact⟨k+1,nx,by go_num,by omega,hfin3,hown6,hx6⟩
     case measure=>simp [intOf];omega
  ·obtain rfl:n=k:=by omega
   have ziM:=za (show out=pnx (zaO ss us) x l by rw [hout.out,List.take_of_length_le (by have:=Hlen.out;omega)];exact Hfin.out)
   have hres:=za (show zbB w (pnx (zaO ss us) x l) (.returned (.slice A0 out.length c0)) wr from by
    rw [← ziM.out]
    exact⟨A0,c0,rfl,zq ziJ hsz2,hw1.trans hx⟩)
   clear ziJ
   go_wp2
   go_ret
   exact hres.out
theorem info_intss:(Tryz.prog.info? 25).map (fun i=>(i.zero,i.size,i.bytes))=some (some (.slice none 0 0),1,24):=by kernel_rfl
def mvs (d:Nat→Nat→List Nat) (L:List Nat) (N:Nat):List (List (List Nat)):=(List.range N).map fun x=>L.map fun l=>d x l
theorem zdd (d:Nat→Nat→List Nat) (L:List Nat) (N:Nat):(mvs d L N).length=N:=by simp [mvs]
abbrev P3:Lay (List (List Nat)):=LstP (LstP zbb)
theorem P3.ok:Lay.Ok P3:=LstP.ok (LstP.ok zbb.ok)
def RetMv (w:World) (mv:List (List (List Nat))) (e:Ending) (w':World):Prop:=∃ A c,e=.returned (.slice A mv.length c)∧Lst P3 w' w.heap.size w'.heap.size A mv∧Ext w w'
theorem spec_l4Moves {PA AA SA:Option Addr} {pn pc an ac n sc lo hi:Nat} {sv:Value} {K G:Int} {L N:Nat} {ss:List Sys} {us:List Aut} {w:World}(h:zeG w PA pn AA an ss us)(hok:zdl ss us)(hS:Lst zbb w lo hi SA (szs ss us))(hn:(szs ss us).length=n)(hL:L<64)(hN:N≤1048576) :
  Calls Tryz.prog 213 #[.agg #[.slice PA pn pc,.slice AA an ac,sv,.int .i64 L,.int .i64 K,.int .i64 G],.slice SA n sc,.int .i64 N] w (RetMv w (mvs (pnx (zaO ss us)) (letters L 6) N)):=by
 have hw1:Ext w (w.alloc (.cells #[.slice PA pn pc,.slice AA an ac,sv,.int .i64 L,.int .i64 K,.int .i64 G] 168)):=(Ext.refl w).alloc _
 have hb1:=Blk.new w 168 #[.slice PA pn pc,.slice AA an ac,sv,.int .i64 L,.int .i64 K,.int .i64 G]
 have HN:=za (fun W (hW:Ext w W)=>h.ext hW)
 have HS:=za (fun W (hW:Ext w W)=>hS.ext zbb.ok hW)
 have Hok:=za hok
 have Hn:=za hn
 have hn5:n≤5:=by rw [← hn];exact hok.len
 have Hz:=za hok.le16
 have hLs:Sm L:=by unfold Sm;omega
 have hll:=zI L 6
 have Hl6:=za (show ∀ l∈letters L 6,l<6 from fun l hl=>(zz.1 hl).1)
 clear h hok hS hn
 go_enter Tryz.func213,Tryz.ntmps213
 go_upto_region 1 with fail
 generalize w.alloc (.cells #[.slice PA pn pc,.slice AA an ac,sv,.int .i64 L,.int .i64 K,.int .i64 G] 168)=w1 at *
 go_upto_region 2 with fail
 have hx2:=(Ext.refl w1).alloc (.cells #[] 25)
 have hsz2:w.heap.size≤w1.heap.size:=hw1.size
 have ziT:=World.ownsRow_lit (base:=w1.heap.size) (e:=25) (size:=1) w1 #[] 0 (Nat.le_refl _) (by unfold maxLen;omega) rfl
 have hob2:∀ b,(Value.slice (some ⟨w1.heap.size,0,none⟩) 0 0).ownBlock=some b→b<(w1.alloc (.cells #[] 25)).heap.size:=fun b hb=>by
  simp [Value.ownBlock] at hb
  simp;omega
 generalize hg1:(some ⟨w1.heap.size,0,none⟩:Option Addr)=A1 at *
 clear hg1
 generalize w1.alloc (.cells #[] 25)=w2 at *
 have c2:=(hb1.ext hx2).cell
 go_upto_region 3 with (go_at_call 131;refine (zaC L hLs _).mono ?_;rintro e w3 ⟨AL,cL,rfl,hownL,hx3⟩)
 have hx23:=hx2.trans hx3
 have hlst3:=Lst.own_nats hownL
 have hsz23:=hx3.size
 have ziU:=zh ziT hx3
 clear ziT hownL hx2 hx3 c2
 generalize hlq:letters L 6=LL at *
 have Hlq:=za hlq
 clear hlq
 go_wp2_with fail
 go_loopw [7,9,10,11,12] (fun v i _ _ _ wr=>∃ k:Nat,i=.int .i64 k∧k≤N∧Grl P3 wr w1.heap.size 25 v (mvs (pnx (zaO ss us)) LL k)∧Ext w1 wr∧Lst zbb wr w2.heap.size w3.heap.size AL LL∧(∀ b,v.ownBlock=some b→b<w2.heap.size∨w3.heap.size≤b)∧w3.heap.size≤wr.heap.size) (fun _ i _ _ _ _=>N - (intOf i).toNat)
 case atStart=>exact⟨0,rfl,Nat.zero_le _,⟨[],ziU,fun i r x hr=>by simp at hr⟩,hx23,hlst3,fun b hb=>Or.inl (hob2 b hb),Nat.le_refl _⟩
 case round =>
  clear ziU hlst3 hob2
  obtain⟨k,rfl,hk,hgr,hx,hlst3,hob,hs3⟩:=hrel
  have hkl:=zdd (pnx (zaO ss us)) LL k
  obtain⟨A0,c0,rfl⟩:=hgr.form
  rw [hkl]
  rw [hkl] at hob
  have Hob:=za hob
  clear hob
  by_cases hlt:k<N
  ·have hww:=hw1.trans hx
   have Hsn:=za (show mvs (pnx (zaO ss us)) LL (k+1)=mvs (pnx (zaO ss us)) LL k++[LL.map fun l=>pnx (zaO ss us) k l] by simp [mvs,List.range_succ])
   rw [hkl] at hgr
   go_upto_region 7 with (go_at_call 215;refine (zfh (HS.out _ hww) Hn.out (by omega) Hz.out (by omega)).mono ?_;rintro e w4 ⟨A4,c4,rfl,hown4,hx4⟩)
   have hln:(dec (szs ss us) k).length=n:=by rw [zcY];exact Hn.out
   rw [hln] at hown4
   rw [hln]
   have HT:=za (fun W (hW:Ext w4 W)=>(Lst.own_nats (xs:=dec (szs ss us) k) (c:=c4) (A:=A4) (by rw [hln];exact hown4)).ext zbb.ok hW)
   clear hown4
   go_upto_region 8 with fail
   have hx5:=(Ext.refl w4).alloc (.cells #[] 128)
   have ziV:=World.ownsRow_lit (base:=w4.heap.size) (e:=128) (size:=1) w4 #[] 0 (Nat.le_refl _) (by unfold maxLen;omega) rfl
   generalize hg1:(some ⟨w4.heap.size,0,none⟩:Option Addr)=A5 at *
   clear hg1
   generalize w4.alloc (.cells #[] 128)=w5 at *
   have hw4:=hww.trans hx4
   have CBx:=za (fun W (hW:Ext w4 W)=>((hb1.ext (hx.trans hx4)).ext hW).cell)
   have HL:=za (fun W (hW:Ext w4 W)=>hlst3.ext zbb.ok (hx4.trans hW))
   go_wp2_with fail
   go_loopw [11,12] (fun v i wr=>∃ j:Nat,i=.int .i64 j∧j≤LL.length∧Grl (LstP zbb) wr w4.heap.size 128 v ((LL.take j).map fun l=>pnx (zaO ss us) k l)∧Ext w4 wr) (fun _ i _=>LL.length - (intOf i).toNat)
   case atStart=>exact⟨0,rfl,Nat.zero_le _,⟨[],ziV,fun i r x hr=>by simp at hr⟩,hx5⟩
   case round =>
    clear ziV hx5
    obtain⟨j,rfl,hj,hrw,hx5⟩:=hrel
    obtain⟨A6,c6,rfl⟩:=hrw.form
    have hjl:((LL.take j).map fun l=>pnx (zaO ss us) k l).length=j:=by simp;omega
    rw [hjl]
    rw [hjl] at hrw
    by_cases hlj:j<LL.length
    ·obtain⟨bl,ol,l,rfl,_,_,hl,hcl⟩:=(HL.out _ hx5).num hlj
     have hl6:=Hl6.out l (List.mem_of_getElem? hl.out)
     have hsn:=za (show (LL.take (j+1)).map (fun l=>pnx (zaO ss us) k l)=(LL.take j).map (fun l=>pnx (zaO ss us) k l)++[pnx (zaO ss us) k l] by rw [List.take_add_one,hl.out];simp)
     have CL:∀ W,Ext wr W→W.cell? ⟨bl,ol+j,none⟩=some (.int .i64 (l:Nat)):=fun W hW=>hW.cell_some hcl
     have CB:∀ W,Ext wr W→∀ q,W.cell? ⟨w.heap.size,q,none⟩=#[Value.slice PA pn pc,.slice AA an ac,sv,.int .i64 L,.int .i64 K,.int .i64 G][q]?:=fun W hW=>CBx.out W (hx5.trans hW)
     have CC:=za (show ∀ W,Ext wr W→Calls Tryz.prog 266 #[.agg #[.slice PA pn pc,.slice AA an ac,sv,.int .i64 L,.int .i64 K,.int .i64 G],.slice SA n sc,.slice A4 n c4,.int .i64 l] W (zbB W (pnx (zaO ss us) k l)) from fun W hW=>spec_l4Nexts (HN.out W ((hw4.trans hx5).trans hW)) Hok.out (HS.out W ((hw4.trans hx5).trans hW)) (HT.out W (hx5.trans hW)) Hn.out hl6)
     have hji:(j:Int)<(LL.length:Int):=by omega
     have hww5:=Ext.refl wr
     obtain⟨rows,hro,hrp⟩:=hrw
     rw [hjl] at hro
     clear hcl
     go_upto_region 11 with fail
     refine uR (fun X=>Ext wr X) [8,9,10] (zu.of [0,1,2,3,4,5,6,7,8,9,10,11]) ?_
     refine uQ ?_
     refine zb fun K hK=>?_
     go_simp
     refine (CC.out _ hww5.drew).mono ?_
     rintro e w7 ⟨A7,c7,rfl,hown7,hx7⟩
     have hww7:=hww5.drew.trans hx7
     refine hK.out _ _ ?_
     refine pT ?_
     refine zb fun K hK=>?_
     go_simp
     refine hK.out _ _ ?_
     refine pT ?_
     refine zb fun K hK=>?_
     refine zbN w4 w7 _ _ _ rfl 128 _ 1 24 Tryz.underlying25 zdc rfl (by decide) (.slice A6 j c6) j rows _ _ rfl rfl (hx5.trans hww7).size (zh hro hww7) rfl (zbS _ _ _) (by unfold maxLen;omega) (by omega) ?_
     intro g8 cap8 w8 hown8 hg8 hat8 hlt8
     refine hK.out _ _ ?_
     refine pT ?_
     refine uQ ?_
     refine zf ?_
     have hgr8:Grl (LstP zbb) w8 w4.heap.size 128 (.slice (some ⟨g8,0,none⟩) (j+1) cap8) ((LL.take j).map (fun l=>pnx (zaO ss us) k l)++[pnx (zaO ss us) k l]):=by
      have:=Grl.push2 (LstP.ok zbb.ok) (v:=.slice A6 j c6) (xs:=(LL.take j).map fun l=>pnx (zaO ss us) k l) (g:=g8) (cap:=cap8) hrp (by rw [hjl];exact hro) hww7 ⟨A7,c7,rfl,Lst.own_nats hown7⟩ (Nat.le_refl wr.heap.size) hx5.size (Nat.le_refl _) (by rw [hjl];exact hown8) hg8 hat8
      rwa [hjl] at this
     have hx8:Ext w4 w8:=(hx5.trans hww7).grown hg8 (fun q' hq'=>(hro.lt q' hq').1)
     go_wp2_with fail
     go_roundw
     case rel=>exact⟨j+1,by go_num,by omega,by rw [hsn.out];exact hgr8,hx8⟩
     case measure=>simp [intOf];omega
    ·obtain rfl:j=LL.length:=by omega
     rw [List.take_length] at hrw
     have hw5:=hx4.trans hx5
     have hlst:=hrw.lst (LstP.ok zbb.ok)
     obtain⟨rows,hro,hrp⟩:=hgr
     rw [hkl] at hro
     go_wp2_with (at_builtin;refine zak w1 wr rfl _ _ _ rfl 25 _ 1 24 Tryz.underlying226 info_intss rfl (by decide) (.slice A0 k c0) k rows _ _ rfl rfl (hx.trans hw5) (zh hro hw5) rfl (zbS _ _ _) (by unfold maxLen;omega) (by omega) ?_;intro v8 w8 hext8 hown8 hg8 hat8)
     have hgr8:Grl P3 w8 w1.heap.size 25 v8 (mvs (pnx (zaO ss us)) LL k++[LL.map fun l=>pnx (zaO ss us) k l]):=
      Grl.push P3.ok (v:=.slice A0 k c0) hrp (by rw [hkl];exact hro) hw5 (⟨A6,c6,by simp,hlst⟩:P3 _ _ _ (.slice A6 LL.length c6) _) hx4.size (hx.trans hx4).size (Nat.le_refl _) (by rw [hkl];exact hown8) hg8 hat8
     have hlst8:Lst zbb w8 w2.heap.size w3.heap.size AL LL:=(hlst3.ext zbb.ok hw5).frm zbb.ok (Frm.of_grown hg8) (fun q h1 h2 hq=>by have:=Hob.out q hq;omega)
     have hob8:∀ b,v8.ownBlock=some b→b<w2.heap.size∨w3.heap.size≤b:=fun b hb=>by
      rcases hat8 with h1|h1
      ·rw [h1] at hb;exact Hob.out b hb
      ·rw [h1] at hb
       have:=Option.some.inj hb
       have:=hw5.size
       omega
     have hs8:w3.heap.size≤w8.heap.size:=by have:=hw5.size;have:=(Frm.of_grown hg8).size;omega
     go_roundw
     case rel=>exact⟨k+1,by go_num,by omega,by rw [Hsn.out];exact hgr8,hext8,hlst8,hob8,hs8⟩
     case measure=>simp [intOf];omega
  ·obtain rfl:N=k:=by omega
   have hres:=za (show RetMv w (mvs (pnx (zaO ss us)) LL N) (.returned (.slice A0 N c0)) wr from by
    refine⟨A0,c0,by rw [hkl],?_,hw1.trans hx⟩
    have:=hgr.lst P3.ok
    exact this.more P3.ok hsz2 (Nat.le_refl _))
   clear hgr
   go_wp2
   go_ret
   exact hres.out
section
variable (d:Nat→Nat→List Nat) (L:List Nat) (goal:Nat→Bool)
def Dn:Nat→Nat→Prop
 |0,x=>goal x=true
 |n+1,x=>∃ l∈L,∃ y∈d x l,Dn n y
def Mn (n x:Nat):Prop:=Dn d L goal n x∧∀ m,m<n→¬ Dn d L goal m x
end
section
variable {d:Nat→Nat→List Nat} {L:List Nat} {goal:Nat→Bool} {start:List Nat} {N:Nat}
theorem Dn.word:∀ {n x:Nat} {v:List Nat},Dn d L goal n x→zbc d start v x→∃ u:List Nat,u.length=n∧(∀ l∈u,l∈L)∧∃ y,zbc d start (v++u) y∧goal y=true:=by
 intro n
 induction n with
 |zero=>intro x v h hg;exact⟨[],rfl,by simp,x,by simpa using hg,h⟩
 |succ n ih =>
  intro x v h hg
  obtain⟨l,hl,y,hy,h⟩:=h
  obtain⟨u,h1,h2,z,h3,h4⟩:=ih h (.snoc hg hy)
  refine⟨l :: u,by simp [h1],?_,z,by simpa using h3,h4⟩
  intro k hk
  rcases List.mem_cons.1 hk with rfl|hk
  ·exact hl
  ·exact h2 k hk
theorem zbc.dn:∀ {u v:List Nat} {y:Nat},zbc d start (v++u) y→goal y=true→(∀ l∈u,l∈L)→∃ x,zbc d start v x∧Dn d L goal u.length x:=by
 intro u
 induction u with
 |nil=>intro v y h hg _;exact⟨y,by simpa using h,hg⟩
 |cons l u ih =>
  intro v y h hg hl
  have h':zbc d start ((v++[l])++u) y:=by simpa using h
  obtain⟨x,h1,h2⟩:=ih h' hg (fun k hk=>hl k (by simp [hk]))
  obtain⟨n,hn,hx⟩:=h1.inv
  exact⟨n,hn,l,hl l (by simp),x,hx,h2⟩
theorem Dn.least {n x:Nat}(h:Dn d L goal n x):∃ m,m≤n∧Mn d L goal m x:=by
 induction n using Nat.strongRecOn with
 |_ n ih =>
  by_cases hm:∃ m,m<n∧Dn d L goal m x
  ·obtain⟨m,h1,h2⟩:=hm
   obtain⟨k,h3,h4⟩:=ih m h1 h2
   exact⟨k,by omega,h4⟩
  ·exact⟨n,Nat.le_refl _,h,fun m h1 h2=>hm ⟨m,h1,h2⟩⟩
theorem Mn.next {n x:Nat}(h:Mn d L goal (n+1) x):∃ l∈L,∃ y∈d x l,Mn d L goal n y:=by
 obtain⟨⟨l,hl,y,hy,h1⟩,h2⟩:=h
 exact⟨l,hl,y,hy,h1,fun m hm hd=>h2 (m+1) (by omega) ⟨l,hl,y,hy,hd⟩⟩
theorem Mn.uniq {m n x:Nat}(h:Mn d L goal m x) (k:Mn d L goal n x):m=n:=by
 rcases Nat.lt_trichotomy m n with h1|h1|h1
 ·exact absurd h.1 (k.2 m h1)
 ·exact h1
 ·exact absurd k.1 (h.2 n h1)
def Dst (d:Nat→Nat→List Nat) (L:List Nat) (goal:Nat→Bool) (k:Nat) (x:Nat) (v:Int):Prop:=(v = -1∧∀ m,m<k→¬ Dn d L goal m x)∨∃ n:Nat,n<k∧v=n∧Mn d L goal n x
def zbr (d:Nat→Nat→List Nat) (L:List Nat) (goal:Nat→Bool) (N k i:Nat) (ds:List Int):Prop:=ds.length=N∧∀ (x:Nat) (v:Int),ds[x]?=some v→Dst d L goal (if x<i then k+1 else k) x v
theorem zbr.round_ {k:Nat} {ds:List Int}(h:zbr d L goal N k N ds):zbr d L goal N (k+1) 0 ds:=⟨h.1,fun x v hx=>by
 have h1:=h.2 x v hx
 have h2:=(List.getElem?_eq_some_iff.1 hx).1
 rw [if_pos (by rw [← h.1];exact h2)] at h1
 rw [if_neg (by omega)]
 exact h1⟩
theorem zbr.init {ds:List Int}(hl:ds.length=N)(h:∀ (x:Nat) (v:Int),ds[x]?=some v→v=if goal x then 0 else -1):zbr d L goal N 1 0 ds:=⟨hl,fun x v hx=>by
 rw [if_neg (by omega)]
 have:=h x v hx
 cases hg:goal x
 ·rw [hg] at this
  refine Or.inl ⟨by simpa using this,fun m hm=>?_⟩
  obtain rfl:m=0:=by omega
  simp [Dn,hg]
 ·rw [hg] at this
  exact Or.inr ⟨0,by omega,by simpa using this,hg,fun m hm=>by omega⟩⟩
theorem zbr.skip {k i:Nat} {ds:List Int} {v:Int}(h:zbr d L goal N k i ds)(hv:ds[i]?=some v)(h0:0≤v):zbr d L goal N k (i+1) ds:=⟨h.1,fun x u hx=>by
 have h1:=h.2 x u hx
 by_cases hxi:x=i
 ·subst hxi
  rw [hv] at hx
  obtain rfl:=Option.some.inj hx
  rw [if_pos (by omega)]
  rw [if_neg (by omega)] at h1
  rcases h1 with ⟨h2,_⟩|⟨n,h2,h3⟩
  ·omega
  ·exact Or.inr ⟨n,by omega,h3⟩
 ·by_cases h2:x<i
  ·rw [if_pos h2] at h1
   rw [if_pos (by omega)]
   exact h1
  ·rw [if_neg h2] at h1
   rw [if_neg (by omega)]
   exact h1⟩
def zio (d:Nat→Nat→List Nat) (L:List Nat) (ds:List Int) (k:Nat) (x:Nat):Bool:=L.any fun l=>(d x l).any fun y=>ds.getD y (-1)==(k:Int)
theorem near_iff {ds:List Int} {k x:Nat}:zio d L ds k x=true↔∃ l∈L,∃ y∈d x l,ds[y]?=some (k:Int):=by
 simp only [zio,List.any_eq_true,beq_iff_eq]
 constructor
 ·rintro ⟨l,hl,y,hy,h⟩
  refine⟨l,hl,y,hy,?_⟩
  rw [List.getD_eq_getElem?_getD] at h
  cases hh:ds[y]? with
  |none=>rw [hh] at h;simp at h
  |some v=>rw [hh] at h;simp at h;rw [h]
 ·rintro ⟨l,hl,y,hy,h⟩
  exact⟨l,hl,y,hy,by rw [List.getD_eq_getElem?_getD,h];rfl⟩
theorem zbr.near {k i:Nat} {ds:List Int} {v:Int}(h:zbr d L goal N (k+1) i ds)(hd:∀ x l,x<N→l∈L→∀ y∈d x l,y<N)(hv:ds[i]?=some v)(h0:v<0):zio d L ds k i=true↔Mn d L goal (k+1) i:=by
 have hiN:i<N:=by rw [← h.1];exact (List.getElem?_eq_some_iff.1 hv).1
 have hi:=h.2 i v hv
 rw [if_neg (by omega)] at hi
 have hno:∀ m,m<k+1→¬ Dn d L goal m i:=by
  rcases hi with ⟨_,h1⟩|⟨n,_,h2,_⟩
  ·exact h1
  ·omega
 have val:∀ y (n:Nat),ds[y]?=some (n:Int)→Mn d L goal n y:=fun y n hy=>by
  rcases h.2 y _ hy with ⟨h1,_⟩|⟨m,_,h1,h2⟩
  ·omega
  ·obtain rfl:n=m:=by omega
   exact h2
 rw [near_iff]
 constructor
 ·rintro ⟨l,hl,y,hy,hyk⟩
  exact⟨⟨l,hl,y,hy,(val y k hyk).1⟩,hno⟩
 ·rintro ⟨⟨l,hl,y,hy,h1⟩,_⟩
  refine⟨l,hl,y,hy,?_⟩
  have hyN:y<ds.length:=by rw [h.1];exact hd i l hiN hl y hy
  have hyv:ds[y]?=some ds[y]:=List.getElem?_eq_getElem hyN
  rw [hyv]
  congr 1
  rcases h.2 y _ hyv with ⟨_,h2⟩|⟨n,_,h2,h3⟩
  ·exact absurd h1 (h2 k (by split<;>omega))
  ·rw [h2]
   rcases Nat.lt_trichotomy n k with h4|h4|h4
   ·exact absurd ⟨l,hl,y,hy,h3.1⟩ (hno (n+1) (by omega))
   ·rw [h4]
   ·exact absurd h1 (h3.2 k h4)
theorem zbr.keep {k i:Nat} {ds:List Int} {v:Int}(h:zbr d L goal N (k+1) i ds)(hd:∀ x l,x<N→l∈L→∀ y∈d x l,y<N)(hv:ds[i]?=some v)(h0:v<0)(hn:zio d L ds k i=false):zbr d L goal N (k+1) (i+1) ds:=⟨h.1,fun x u hx=>by
 have h1:=h.2 x u hx
 by_cases hxi:x=i
 ·subst hxi
  have hM:¬ Mn d L goal (k+1) x:=fun hm=>by rw [(h.near hd hv h0).2 hm] at hn;cases hn
  rw [hv] at hx
  obtain rfl:=Option.some.inj hx
  rw [if_pos (by omega)]
  rw [if_neg (by omega)] at h1
  rcases h1 with ⟨h2,h3⟩|⟨n,h2,h3,_⟩
  ·refine Or.inl ⟨h2,fun m hm hdm=>?_⟩
   by_cases he:m=k+1
   ·subst he
    exact hM ⟨hdm,h3⟩
   ·exact h3 m (by omega) hdm
  ·omega
 ·by_cases h2:x<i
  ·rw [if_pos h2] at h1
   rw [if_pos (by omega)]
   exact h1
  ·rw [if_neg h2] at h1
   rw [if_neg (by omega)]
   exact h1⟩
theorem zbr.put {k i:Nat} {ds:List Int} {v:Int}(h:zbr d L goal N (k+1) i ds)(hd:∀ x l,x<N→l∈L→∀ y∈d x l,y<N)(hv:ds[i]?=some v)(h0:v<0)(hn:zio d L ds k i=true):zbr d L goal N (k+1) (i+1) (ds.set i ((k+1:Nat):Int)):=⟨by rw [List.length_set];exact h.1,fun x u hx=>by
 by_cases hxi:x=i
 ·subst hxi
  rw [List.getElem?_set_self (List.getElem?_eq_some_iff.1 hv).1] at hx
  obtain rfl:=Option.some.inj hx
  rw [if_pos (by omega)]
  exact Or.inr ⟨k+1,by omega,rfl,(h.near hd hv h0).1 hn⟩
 ·rw [List.getElem?_set_ne (fun e=>hxi e.symm)] at hx
  have h1:=h.2 x u hx
  by_cases h2:x<i
  ·rw [if_pos h2] at h1
   rw [if_pos (by omega)]
   exact h1
  ·rw [if_neg h2] at h1
   rw [if_neg (by omega)]
   exact h1⟩
theorem set_count {ds:List Int} {i:Nat} {v u:Int}(hv:ds[i]?=some v)(h0:v = -1)(hu:0≤u):(ds.set i u).count (-1)+1=ds.count (-1):=by
 obtain⟨hi,e⟩:=List.getElem?_eq_some_iff.1 hv
 have hpos:1≤ds.count (-1):=List.count_pos_iff.2 (by rw [← h0,← e];exact List.getElem_mem hi)
 rw [List.count_set hi,e,h0]
 have:(u==(-1:Int))=false:=by simp;omega
 simp [this]
 omega
def DsFin (d:Nat→Nat→List Nat) (L:List Nat) (goal:Nat→Bool) (N:Nat) (ds:List Int):Prop:=ds.length=N∧∀ (x:Nat) (v:Int),ds[x]?=some v→(v = -1∧∀ m,¬ Dn d L goal m x)∨∃ n:Nat,v=n∧Mn d L goal n x
theorem zbr.fin {k:Nat} {ds:List Int}(h:zbr d L goal N k N ds)(hd:∀ x l,x<N→l∈L→∀ y∈d x l,y<N)(hno:∀ x,x<N→¬ Mn d L goal k x):DsFin d L goal N ds:=by
 have up:∀ n x,x<N→¬ Mn d L goal (k+n) x:=by
  intro n
  induction n with
  |zero=>exact hno
  |succ n ih =>
   intro x hx hm
   obtain⟨l,hl,y,hy,h1⟩:=hm.next
   exact ih y (hd x l hx hl y hy) h1
 refine⟨h.1,fun x v hx=>?_⟩
 have hxN:x<N:=by rw [← h.1];exact (List.getElem?_eq_some_iff.1 hx).1
 have h1:=h.2 x v hx
 rw [if_pos hxN] at h1
 rcases h1 with ⟨h2,h3⟩|⟨n,_,h3⟩
 ·refine Or.inl ⟨h2,fun m hm=>?_⟩
  obtain⟨m',_,h4⟩:=hm.least
  by_cases h5:m'<k
  ·exact h3 m' (by omega) h4.1
  ·have:=up (m' - k) x hxN
   rw [show k+(m' - k)=m' by omega] at this
   exact this h4
 ·exact Or.inr ⟨n,h3⟩
theorem DsFin.val {ds:List Int}(h:DsFin d L goal N ds) {x n:Nat}(hx:x<N):ds[x]?=some (n:Int)↔Mn d L goal n x:=by
 have hl:x<ds.length:=by rw [h.1];exact hx
 have hv:ds[x]?=some ds[x]:=List.getElem?_eq_getElem hl
 constructor
 ·intro h1
  rcases h.2 x _ h1 with ⟨h2,_⟩|⟨m,h2,h3⟩
  ·omega
  ·obtain rfl:n=m:=by omega
   exact h3
 ·intro hm
  rw [hv]
  rcases h.2 x _ hv with ⟨_,h2⟩|⟨m,h2,h3⟩
  ·exact absurd hm.1 (h2 n)
  ·rw [h2,h3.uniq hm]
theorem wval_lt (w:List Nat)(h:∀ l∈w,l<6):zcj w<7 ^ w.length∧7 ^ w.length≤6*zcj w+1:=by
 have key:∀ n (w:List Nat),w.length=n→(∀ l∈w,l<6)→zcj w<7 ^ n∧7 ^ n≤6*zcj w+1:=by
  intro n
  induction n with
  |zero =>
   intro w hw _
   obtain rfl:=List.eq_nil_of_length_eq_zero hw
   simp [zcj]
  |succ n ih =>
   intro w hw hl
   rcases zQ w with rfl|⟨u,l,rfl⟩
   ·simp at hw
   ·have h1:=ih u (by simpa using hw) (fun x hx=>hl x (by simp [hx]))
    have h2:=hl l (by simp)
    rw [zas,Nat.pow_succ]
    omega
 exact key w.length w rfl h
theorem zgW {u v:List Nat}(hu:∀ l∈u,l<6)(hv:∀ l∈v,l<6)(h:v.length<u.length):zcj v<zcj u:=by
 have h1:=wval_lt u hu
 have h2:=wval_lt v hv
 have h3:7 ^ (v.length+1)≤7 ^ u.length:=Nat.pow_le_pow_right (by omega) h
 rw [Nat.pow_succ] at h3
 omega
structure zdv (d:Nat→Nat→List Nat) (L:List Nat) (goal:Nat→Bool) (start:List Nat) (at_:List Nat) (v:List Nat) (r:Nat):Prop where
 goes:∀ x∈at_,zbc d start v x∧Mn d L goal r x
 all:∀ x,zbc d start v x→Dn d L goal r x→x∈at_
 first:∀ u:List Nat,(∀ l∈u,l∈L)→u.length=v.length→zcj u<zcj v→∀ x,zbc d start u x→¬ Dn d L goal r x
 least:∀ u:List Nat,(∀ l∈u,l∈L)→u.length<v.length+r→∀ x,zbc d start u x→goal x=false
 letters:∀ l∈v,l∈L
 some_:at_≠[]
theorem zdv.begin_ {x r:Nat}(h:Mn d L goal r x):zdv d L goal [x] [x] [] r:=by
 refine⟨fun y hy=>?_,fun y hy _=>hy.inv_nil,fun u _ hu=>?_,fun u hl hu y hy=>?_,by simp,by simp⟩
 ·simp at hy;subst hy
  exact⟨.nil (by simp),h⟩
 ·simp at hu;subst hu
  intro h;simp [zcj] at h
 ·simp at hu
  cases hg:goal y
  ·rfl
  ·exfalso
   obtain⟨z,hz,hd⟩:=zbc.dn (v:=[]) (u:=u) (by simpa using hy) hg hl
   have:=hz.inv_nil
   simp at this
   subst this
   exact h.2 u.length (by omega) hd
theorem zdv.fin {at_ v:List Nat}(h:zdv d L goal start at_ v 0)(hL:∀ l∈L,l<6):Found d start goal L v:=by
 refine⟨h.letters,?_,fun u hu hlt x hx=>?_⟩
 ·obtain⟨x,hx⟩:=List.exists_mem_of_ne_nil _ h.some_
  exact⟨x,(h.goes x hx).1,(h.goes x hx).2.1⟩
 ·rcases Nat.lt_trichotomy u.length v.length with h1|h1|h1
  ·exact h.least u hu (by omega) x hx
  ·have:=h.first u hu h1 hlt x hx
   cases hg:goal x
   ·rfl
   ·exact absurd hg this
  ·have:=zgW (u:=u) (v:=v) (fun l hl=>hL l (hu l hl)) (fun l hl=>hL l (h.letters l hl)) h1
   omega
theorem zdv.exists_ {at_ v:List Nat} {r:Nat}(h:zdv d L goal start at_ v (r+1)):∃ (k l:Nat),L[k]?=some l∧∃ x n,n∈at_∧x∈d n l∧Mn d L goal r x:=by
 obtain⟨n,hn⟩:=List.exists_mem_of_ne_nil _ h.some_
 obtain⟨l,hl,y,hy,h1⟩:=(h.goes n hn).2.next
 obtain⟨k,hk⟩:=List.getElem?_of_mem hl
 exact⟨k,l,hk,y,n,hn,hy,h1⟩
theorem zdv.step {at_ v next:List Nat} {r k l:Nat}(h:zdv d L goal start at_ v (r+1))(hL:Rise L)(hk:L[k]?=some l)(hn:∀ x,x∈next↔∃ n∈at_,x∈d n l∧Mn d L goal r x)(hne:next≠[])
  (hno:∀ (j m:Nat),j<k→L[j]?=some m→∀ n∈at_,∀ x∈d n m,¬ Mn d L goal r x):zdv d L goal start next (v++[l]) r:=by
 have h6:∀ l∈L,l<6:=hL.1
 have hlL:=List.mem_of_getElem? hk
 have min_:∀ (u:List Nat),(∀ m∈u,m∈L)→u.length=v.length+1→∀ x,zbc d start u x→Dn d L goal r x→Mn d L goal r x:=by
  intro u hu hlen x hx hd
  refine⟨hd,fun m hm hdm=>?_⟩
  obtain⟨s,h1,h2,y,h3,h4⟩:=hdm.word hx
  have:=h.least (u++s) (fun z hz=>by
   rcases List.mem_append.1 hz with h5|h5
   ·exact hu z h5
   ·exact h2 z h5) (by rw [List.length_append];omega) y h3
  rw [this] at h4;cases h4
 refine⟨fun x hx=>?_,fun x hx hd=>?_,fun u hu hlen hlt x hx hd=>?_,fun u hu hlen=>?_,?_,hne⟩
 ·obtain⟨n,h1,h2,h3⟩:=(hn x).1 hx
  exact⟨.snoc (h.goes n h1).1 h2,h3⟩
 ·obtain⟨n,h1,h2⟩:=hx.inv
  have hn':n∈at_:=h.all n h1 ⟨l,hlL,x,h2,hd⟩
  exact (hn x).2 ⟨n,hn',h2,min_ (v++[l]) (fun m hm=>by
   rcases List.mem_append.1 hm with h5|h5
   ·exact h.letters m h5
   ·rw [List.mem_singleton.1 h5];exact hlL) (by simp) x hx hd⟩
 ·rcases zQ u with rfl|⟨u,m,rfl⟩
  ·simp at hlen
  ·obtain⟨n,h1,h2⟩:=hx.inv
   have hmL:=hu m (by simp)
   have hu':∀ z∈u,z∈L:=fun z hz=>hu z (by simp [hz])
   have hlen':u.length=v.length:=by simpa using hlen
   have hDn:Dn d L goal (r+1) n:=⟨m,hmL,x,h2,hd⟩
   rw [zas,zas] at hlt
   have hm6:=h6 m hmL
   have hl6:=h6 l hlL
   by_cases hw:zcj u<zcj v
   ·exact h.first u hu' hlen' hw n h1 hDn
   ·have e:zcj u=zcj v:=by omega
    obtain rfl:=wval_inj _ u v (Nat.le_refl _) (fun z hz=>h6 z (hu' z hz)) (fun z hz=>h6 z (h.letters z hz)) e
    obtain⟨j,hj⟩:=List.getElem?_of_mem hmL
    have hjk:j<k:=by
     rcases Nat.lt_trichotomy j k with h5|h5|h5
     ·exact h5
     ·subst h5
      rw [hk] at hj
      have:=Option.some.inj hj
      omega
     ·have:=hL.2 k j _ _ hk hj h5
      omega
    exact hno j m hjk hj n (h.all n h1 hDn) x h2 (min_ _ hu (by simp) x hx hd)
 ·exact h.least u hu (by rw [List.length_append,List.length_singleton] at hlen;omega)
 ·intro m hm
  rcases List.mem_append.1 hm with h5|h5
  ·exact h.letters m h5
  ·rw [List.mem_singleton.1 h5];exact hlL
theorem lost_of {x:Nat}(h:∀ m,¬ Dn d L goal m x):Lost d [x] goal L:=fun v hv y hy=>by
 cases hg:goal y
 ·rfl
 ·exfalso
  obtain⟨z,hz,hd⟩:=zbc.dn (v:=[]) (u:=v) (by simpa using hy) hg hv
  have:=hz.inv_nil
  simp at this
  subst this
  exact h _ hd
theorem goes_congr {d':Nat→Nat→List Nat} {start:List Nat} {N:Nat}(hs:∀ x∈start,x<N)(hd:∀ x l,x<N→l∈L→(∀ y,y∈d x l↔y∈d' x l)∧∀ y∈d x l,y<N) {v:List Nat}(hv:∀ l∈v,l∈L):∀ {x:Nat},(zbc d start v x↔zbc d' start v x)∧(zbc d start v x→x<N):=by
 have key:∀ n (v:List Nat),v.length=n→(∀ l∈v,l∈L)→∀ x,(zbc d start v x↔zbc d' start v x)∧(zbc d start v x→x<N):=by
  intro n
  induction n with
  |zero =>
   intro v hv _ x
   obtain rfl:=List.eq_nil_of_length_eq_zero hv
   exact⟨⟨fun h=>.nil h.inv_nil,fun h=>.nil h.inv_nil⟩,fun h=>hs x h.inv_nil⟩
  |succ n ih =>
   intro v hn hv x
   rcases zQ v with rfl|⟨u,l,rfl⟩
   ·simp at hn
   ·have hl:=hv l (by simp)
    have ih':=ih u (by simpa using hn) (fun m hm=>hv m (by simp [hm]))
    refine⟨⟨fun h=>?_,fun h=>?_⟩,fun h=>?_⟩
    ·obtain⟨m,h1,h2⟩:=h.inv
     exact .snoc ((ih' m).1.1 h1) (((hd m l ((ih' m).2 h1) hl).1 x).1 h2)
    ·obtain⟨m,h1,h2⟩:=h.inv
     have h3:=(ih' m).1.2 h1
     exact .snoc h3 (((hd m l ((ih' m).2 h3) hl).1 x).2 h2)
    ·obtain⟨m,h1,h2⟩:=h.inv
     exact (hd m l ((ih' m).2 h1) hl).2 x h2
 exact fun {x}=>key v.length v rfl hv x
theorem zeu {l:List Nat}(h:l.Nodup) {p:Nat}(hl:∀ x∈l,x<p):l.length≤p:=by
 have h1:l ⊆ List.range p:=fun x hx=>List.mem_range.2 (hl x hx)
 have:=List.Nodup.length_le_of_subset h h1
 simpa using this
theorem Mn.lt {n x:Nat}(h:Mn d L goal n x)(hx:x<N)(hd:∀ x l,x<N→l∈L→∀ y∈d x l,y<N):n<N:=by
 have all:∀ n x,x<N→Mn d L goal n x→∃ ys:List Nat,ys.length=n+1∧ys.Nodup∧∀ y∈ys,y<N∧∃ m,m≤n∧Mn d L goal m y:=by
  intro n
  induction n with
  |zero=>intro x hx h;exact⟨[x],rfl,by simp,fun y hy=>by simp at hy;subst hy;exact⟨hx,0,Nat.le_refl _,h⟩⟩
  |succ n ih =>
   intro x hx h
   obtain⟨l,hl,y,hy,h1⟩:=h.next
   obtain⟨ys,h2,h3,h4⟩:=ih y (hd x l hx hl y hy) h1
   refine⟨x :: ys,by simp [h2],List.nodup_cons.2 ⟨fun hm=>?_,h3⟩,fun z hz=>?_⟩
   ·obtain⟨_,m,hm1,hm2⟩:=h4 x hm
    have:=h.uniq hm2
    omega
   ·rcases List.mem_cons.1 hz with rfl|hz
    ·exact⟨hx,n+1,Nat.le_refl _,h⟩
    ·obtain⟨h5,m,h6,h7⟩:=h4 z hz
     exact⟨h5,m,by omega,h7⟩
 obtain⟨ys,h1,h2,h3⟩:=all n x hx h
 have:=zeu h2 fun y hy=>(h3 y hy).1
 omega
end
end Go.Proofs.YtcfchopfijalpaaGreatDoor
