/- spec.l4Nexts -/
import Derived.Test.YtfcjhpodichpjaaGreatDoorU04
import Derived.Test.YtfcjhpodichpjaaGreatDoorU02
import Derived.Test.YtfcjhpodichpjaaGreatDoorU01
import Derived.StillTailTactics
import Derived.Deep.DeepCutAuto
import Derived.Deep.CutBlock
import Derived.Test.YtfcjhpodichpjaaGreatDoorU03
set_option maxHeartbeats 8000000
set_option maxRecDepth 100000
namespace Go.Proofs.YtfcjhpodichpjaaGreatDoor
open Go Go.RowKit
theorem wrapN (n:Nat)(h:n<9223372036854775808):IntKind.i64.wrap (n:Int)=(n:Int):=by rw [IntKind.wrap_i64];omega
theorem chs_fst (ms:List Mem) (x l:Nat):(chs ms x l).map Prod.fst=ms.map Prod.fst:=by
 induction ms with
 |nil=>rfl
 |cons m r ih=>simp [chs,ih]
theorem zco.choices {ss:List Sys} {us:List Aut}(h:zco ss us) {m:Mem}(hm:m∈zaS ss us) {q l:Nat}(hq:q<m.1)(hl:l<6):(∀ x∈m.2 q l,x<m.1)∧(m.2 q l).length≤m.1:=by
 refine⟨(h.ok m hm).2 q l hq hl,?_⟩
 rcases List.mem_append.1 hm with h1|h1
 ·obtain⟨s,hs,rfl⟩:=List.mem_map.1 h1
  exact cho_len (zcS (h.sys s hs)) hq
 ·obtain⟨a,ha,rfl⟩:=List.mem_map.1 h1
  have:=(zx (h.aut a ha)).2.1.1
  simp only [zeV]
  simpa using this
theorem zco.fwd_ {ss:List Sys} {us:List Aut}(h:zco ss us) (x:Nat) {l:Nat}(hl:l<6) (k:Nat):(fwd ((chs (zaS ss us) x l).take k)).length≤1048576∧∀ y∈fwd ((chs (zaS ss us) x l).take k),y<1048576:=by
 have hc:∀ c∈(chs (zaS ss us) x l).take k,(∀ y∈c.2,y<c.1)∧c.2.length≤c.1:=by
  intro c hc
  obtain⟨i,hi⟩:=List.getElem?_of_mem (List.mem_of_mem_take hc)
  have hil:=(List.getElem?_eq_some_iff.1 hi).1
  rw [zew] at hil
  have hm:(zaS ss us)[i]?=some (zaS ss us)[i]:=List.getElem?_eq_getElem hil
  rw [chs_get hm] at hi
  obtain rfl:=Option.some.inj hi
  have hmm:=List.getElem_mem hil
  exact h.choices hmm (Nat.mod_lt _ (h.ok _ hmm).1) hl
 have hp:=(h.total (((chs (zaS ss us) x l).take k).map Prod.fst) (by rw [← zel,← chs_fst _ x l];exact (List.take_sublist _ _).map _)).2
 refine⟨Nat.le_trans (fwd_len fun c hc'=>(hc c hc').2) hp,fun y hy=>Nat.lt_of_lt_of_le (fwd_lt (fun c hc'=>(hc c hc').1) y hy) hp⟩
theorem spec_l4Nexts {PA AA SA TA:Option Addr} {pn pc an ac n sc tc lo hi lo' hi':Nat} {sv:Value} {L K G:Int} {ss:List Sys} {us:List Aut} {w:World} {x l:Nat}(h:zeb w PA pn AA an ss us)(hok:zco ss us)(hS:Lst zbf w lo hi SA (szs ss us))(hT:Lst zbf w lo' hi' TA (dec (szs ss us) x))(hn:(szs ss us).length=n)(hl:l<6) :
  Calls Tryz.prog 242 #[.agg #[.slice PA pn pc,.slice AA an ac,sv,.int .i64 L,.int .i64 K,.int .i64 G],.slice SA n sc,.slice TA n tc,.int .i64 l] w (zbq w (pnx (zaS ss us) x l)):=by
 have hw1:Ext w (w.alloc (.cells #[.slice PA pn pc,.slice AA an ac,sv,.int .i64 L,.int .i64 K,.int .i64 G] 178)):=(Ext.refl w).alloc _
 have hb1:=Blk.new w 178 #[.slice PA pn pc,.slice AA an ac,sv,.int .i64 L,.int .i64 K,.int .i64 G]
 have HN:=za (fun W (hW:Ext w W)=>h.ext hW)
 have HS:=za (fun W (hW:Ext w W)=>hS.ext zbf.ok hW)
 have HT:=za (fun W (hW:Ext w W)=>hT.ext zbf.ok hW)
 have Hok:=za hok
 have hn5:n≤5:=by rw [← hn];exact hok.len
 have hKl:(chs (zaS ss us) x l).length=n:=by rw [zew,← hn,← zel,List.length_map]
 have Hfw:=za (hok.fwd_ x hl)
 have Hget:=za (show ∀ k,k<n→∃ m,(zaS ss us)[k]?=some m∧(szs ss us)[k]?=some m.1∧(dec (szs ss us) x)[k]?=some (x / zak ((zaS ss us).drop (k+1)) % m.1)∧(chs (zaS ss us) x l)[k]?=some (m.1,m.2 (x / zak ((zaS ss us).drop (k+1)) % m.1) l)∧1≤m.1∧m.1≤16 from fun k hk=>by
  have hkl:k<(zaS ss us).length:=by rw [← zew _ x l,hKl];exact hk
  have hm:(zaS ss us)[k]?=some (zaS ss us)[k]:=List.getElem?_eq_getElem hkl
  have hz:(szs ss us)[k]?=some ((zaS ss us)[k]).1:=by rw [← zel,List.getElem?_map,hm];rfl
  refine⟨_,hm,hz,?_,chs_get hm,hok.le16 _ (List.mem_of_getElem? hz)⟩
  rw [zgW hz,← zel,← List.map_drop]
  rfl)
 have Hfin:=za (fwd_pnx (zaS ss us) x l)
 have Hch:=za (fun (m:Mem) (hm:m∈zaS ss us) (q l:Nat) (hq:q<m.1) (hl:l<6)=>hok.choices hm hq hl)
 clear h hS hT hok
 generalize hK:chs (zaS ss us) x l=KK at *
 have Hlen:=za hKl
 have HSl:=za hn
 clear hK hKl hn
 go_enter Tryz.func242,Tryz.ntmps242
 go_upto_region 1 with fail
 generalize w.alloc (.cells #[.slice PA pn pc,.slice AA an ac,sv,.int .i64 L,.int .i64 K,.int .i64 G] 178)=w1 at *
 go_upto_region 2 with fail
 have hx2:=(Ext.refl w1).alloc (.cells #[.int .i64 0] 3)
 have hsz2:w.heap.size≤w1.heap.size:=hw1.size
 have zhT:=World.ownsRow_lit (base:=w1.heap.size) (e:=3) (size:=1) w1 #[.int .i64 0] 1 (Nat.le_refl _) (by unfold maxLen;omega) rfl
 generalize hg1:(some ⟨w1.heap.size,0,none⟩:Option Addr)=A1 at *
 clear hg1
 generalize w1.alloc (.cells #[.int .i64 0] 3)=w2 at *
 go_wp2_with fail
 go_loopw [9,10,11,12,13,14] (fun v i _ _ _ _ wr=>∃ (k:Nat) (out:List Nat),i=.int .i64 k∧k≤n∧Hid (out=fwd (KK.take k))∧wr.ownsRow w1.heap.size 3 1 v out.length (zaK out)∧Ext w1 wr) (fun _ i _ _ _ _ _=>n - (intOf i).toNat)
 case atStart=>exact⟨0,[0],rfl,Nat.zero_le _,rfl,by simpa [zaK] using zhT,hx2⟩
 case round =>
  clear zhT hx2
  obtain⟨k,out,rfl,hk,hout,zhJ,hx⟩:=hrel
  obtain⟨A0,c0,rfl⟩:=zf zhJ
  by_cases hlt:k<n
  ·obtain⟨m,hm,hz,hd,hc,hm1,hm16⟩:=Hget.out k hlt
   have Hm:=za hm
   have Hc:=za hc
   obtain⟨ho1,ho2⟩:=Hfw.out k
   rw [← hout.out] at ho1 ho2
   have Ho2:=za ho2
   obtain⟨q,hq⟩:∃ q:Nat,Hid (x / zak ((zaS ss us).drop (k+1)) % m.1=q):=⟨_,rfl⟩
   have hqm:q<m.1:=by rw [← hq.out];exact Nat.mod_lt _ hm1
   obtain⟨hcs1,hcs2⟩:=Hch.out m (List.mem_of_getElem? hm) q l hqm hl
   have Hcs1:=za hcs1
   rw [hq.out] at hd
   have Hc2:=za (show KK[k]?=some (m.1,m.2 q l) by rw [Hc.out,hq.out])
   obtain⟨sz,hsz⟩:∃ sz:Nat,Hid (m.1=sz):=⟨_,rfl⟩
   obtain⟨cs,hcs⟩:∃ cs:List Nat,Hid (m.2 q l=cs):=⟨_,rfl⟩
   have hkl:k<(dec (szs ss us) x).length:=(List.getElem?_eq_some_iff.1 hd).1
   have hww:=hw1.trans hx
   obtain⟨bt,ot,q',rfl,_,_,hq',hct⟩:=(HT.out wr hww).num hkl
   obtain rfl:q=q':=by have:=hq'.out;rw [hd] at this;exact Option.some.inj this
   obtain⟨bz,oz,z',rfl,_,_,hz',hcz⟩:=(HS.out wr hww).num (List.getElem?_eq_some_iff.1 hz).1
   obtain rfl:m.1=z':=by have:=hz'.out;rw [hz] at this;exact Option.some.inj this
   have Hqm:=za hqm
   rw [hsz.out] at hcz hm1 hm16 hcs2
   rw [hcs.out] at hcs2 Hcs1
   rw [hsz.out] at Hcs1 Hc2
   rw [hcs.out] at Hc2
   have hstep:=za (show fwd (KK.take (k+1))=out.flatMap fun o=>cs.map fun y=>o*sz+y by
    rw [List.take_add_one,Hc2.out,Option.toList_some,zgY,← hout.out])
   have CT:∀ W,Ext wr W→W.cell? ⟨bt,ot+k,none⟩=some (.int .i64 (q:Nat)):=fun W hW=>hW.cell_some hct
   have CB:∀ W,Ext wr W→∀ j,W.cell? ⟨w.heap.size,j,none⟩=#[Value.slice PA pn pc,.slice AA an ac,sv,.int .i64 L,.int .i64 K,.int .i64 G][j]?:=fun W hW=>((hb1.ext hx).ext hW).cell
   have CC:=za (show ∀ W,Ext wr W→Calls Tryz.prog 263 #[.agg #[.slice PA pn pc,.slice AA an ac,sv,.int .i64 L,.int .i64 K,.int .i64 G],.int .i64 k,.int .i64 q,.int .i64 l] W (zbq W cs) from fun W hW=>by
    have:=zgn (pc:=pc) (ac:=ac) (sv:=sv) (L:=L) (K:=K) (G:=G) (HN.out W (hww.trans hW)) Hok.out Hm.out Hqm.out hl
    rw [hcs.out] at this
    exact this)
   have hki:(k:Int)<(n:Int):=by omega
   have hrr:=Ext.refl wr
   clear hct hz' hq' hz hd hc hm hqm hcs1 ho2 Hqm
   go_upto_region 5 with fail
   refine uR (fun X=>Ext wr X) [7] (zK.of [0,1,2,3,4,5,6,7,8]) ?_
   refine uQ ?_
   refine zg fun K hK=>?_
   go_simp
   refine (CC.out _ hrr.drew).mono ?_
   rintro e w4 ⟨A4,c4,rfl,hown4,hx4⟩
   refine hK.out _ _ ?_
   refine pT ?_
   refine uQ ?_
   refine zj ?_
   have hw4:Ext wr w4:=hrr.drew.trans hx4
   have hL4:=Lst.own_nats hown4
   have hLo:=(Lst.own_nats zhJ).ext zbf.ok hw4
   have hcz4:=hw4.cell_some hcz
   clear CT CB CC hrr hown4 hx4 hcz
   go_upto_region 7 with fail
   have hx5:=(Ext.refl w4).alloc (.cells #[] 3)
   have zhV:=World.ownsRow_lit (base:=w4.heap.size) (e:=3) (size:=1) w4 #[] 0 (Nat.le_refl _) (by unfold maxLen;omega) rfl
   generalize hg1:(some ⟨w4.heap.size,0,none⟩:Option Addr)=A5 at *
   clear hg1
   generalize w4.alloc (.cells #[] 3)=w5 at *
   have hLo':=za (fun W (hW:Ext w4 W)=>hLo.ext zbf.ok hW)
   have hL4':=za (fun W (hW:Ext w4 W)=>hL4.ext zbf.ok hW)
   have Hsz:=za (fun W (hW:Ext w4 W)=>hW.cell_some hcz4)
   clear hLo hL4 hcz4
   go_wp2_with fail
   go_loopw [12,13,14] (fun v i _ wr=>∃ (a:Nat) (nx:List Nat),i=.int .i64 a∧a≤out.length∧Hid (nx=(out.take a).flatMap fun o=>cs.map fun y=>o*sz+y)∧wr.ownsRow w4.heap.size 3 1 v nx.length (zaK nx)∧Ext w4 wr) (fun _ i _ _=>out.length - (intOf i).toNat)
   case atStart=>exact⟨0,[],rfl,Nat.zero_le _,by simp [Hid],by simpa [zaK] using zhV,hx5⟩
   case round =>
    clear zhV hx5
    obtain⟨a,nx,rfl,ha,hnx,zhV,hx5⟩:=hrel
    by_cases hla:a<out.length
    ·obtain⟨bo,oo,o,rfl,_,_,ho,hco⟩:=(hLo'.out _ hx5).num hla
     have holt:=Ho2.out o (List.mem_of_getElem? ho.out)
     have hnl:nx.length≤16777216:=by
      rw [hnx.out]
      refine Nat.le_trans (flat_len (k:=cs.length) fun z _=>by simp) ?_
      rw [List.length_take]
      have:=Nat.mul_le_mul (show min a out.length≤1048576 by omega) (show cs.length≤16 by omega)
      omega
     have hsn:=za (show ((out.take (a+1)).flatMap fun o=>cs.map fun y=>o*sz+y)=nx++cs.map fun y=>o*sz+y by
      rw [List.take_add_one,ho.out,hnx.out];simp)
     clear hco
     go_wp2_with fail
     go_loopw [12,14] (fun v i wr=>∃ (b:Nat) (nb:List Nat),i=.int .i64 b∧b≤cs.length∧Hid (nb=nx++(cs.take b).map fun y=>o*sz+y)∧wr.ownsRow w4.heap.size 3 1 v nb.length (zaK nb)∧Ext w4 wr) (fun _ i _=>cs.length - (intOf i).toNat)
     case atStart=>exact⟨0,nx,rfl,Nat.zero_le _,by simp [Hid],zhV,hx5⟩
     case round =>
      clear zhV hx5
      obtain⟨b,nb,rfl,hb,hnb,zhV,hx5⟩:=hrel
      by_cases hlb:b<cs.length
      ·obtain⟨bc,oc,y,rfl,_,_,hy,hcy⟩:=(hL4'.out _ hx5).num hlb
       have hylt:=Hcs1.out y (List.mem_of_getElem? hy.out)
       have hnbl:nb.length≤16777216+16:=by rw [hnb.out,List.length_append,List.length_map,List.length_take];omega
       have hmul:o*sz≤1048576*16:=Nat.mul_le_mul (by omega) hm16
       obtain⟨os,hos⟩:∃ z:Nat,Hid (o*sz=z):=⟨_,rfl⟩
       have hosi:(o:Int)*(sz:Int)=(os:Int):=by rw [← hos.out];exact (Int.natCast_mul o sz).symm
       rw [hos.out] at hmul
       have hsn3:=za (show (nx++(cs.take (b+1)).map fun y=>o*sz+y)=nb++[os+y] by
        rw [List.take_add_one,hy.out,hnb.out,← hos.out];simp)
       have C1:∀ W,Ext wr W→W.cell? ⟨bo,oo+a,none⟩=some (.int .i64 (o:Nat)):=fun W hW=>(hLo'.out W (hx5.trans hW)).num2 ho.out
       have C2:∀ W,Ext wr W→W.cell? ⟨bz,oz+k,none⟩=some (.int .i64 (sz:Nat)):=fun W hW=>Hsz.out W (hx5.trans hW)
       have C3:∀ W,Ext wr W→W.cell? ⟨bc,oc+b,none⟩=some (.int .i64 (y:Nat)):=fun W hW=>hW.cell_some hcy
       have hai:(a:Int)<(out.length:Int):=by omega
       have hbi:(b:Int)<(cs.length:Int):=by omega
       have hww5:=Ext.refl wr
       clear hcy
       go_upto_region 13 with fail
       refine uR (fun X=>Ext wr X) [15,16] (zK.of [0,1,2,3,4,5,6,7,8,9,10,11,12,13,14,15,16,17]) ?_
       refine uQ ?_
       refine zb fun K hK=>?_;go_simp
       refine hK.out _ _ (hww5.drew.alloc _) ?_
       refine pT ?_
       refine zg fun K hK=>?_
       refine zaC w4 wr.drew _ _ _ rfl 3 _ 1 8 Tryz.underlying74 zac rfl (by decide) u12 nb.length (zaK nb) _ _ rfl rfl (hx5.drew).size zhV rfl (zbv _) (by unfold maxLen;omega) (by omega) ?_
       intro g5 cap5 w6 hown6 hg6 hat6 hlt6
       have hwr:IntKind.i64.wrap (IntKind.i64.wrap (os:Int)+(y:Int))=((os+y:Nat):Int):=by rw [wrapN os (by omega),← Int.natCast_add,wrapN (os+y) (by omega)]
       rw [hwr] at hown6
       refine hK.out _ _ ?_
       refine pT ?_
       refine uQ ?_
       refine zj ?_
       have hx6:Ext w4 w6:=hx5.drew.grown hg6 (fun q' hq'=>(zhV.lt q' hq').1)
       go_wp2_with fail
       go_roundw
       case rel=>exact⟨b+1,nb++[os+y],by go_num,by omega,by unfold Hid;rw [hsn3.out],by rw [List.length_append,zcQ];exact hown6,hx6⟩
       case measure=>simp [intOf];omega
      ·obtain rfl:b=cs.length:=by omega
       have hfin2:=za (show nb=nx++cs.map fun y=>o*sz+y by rw [hnb.out,List.take_length])
       go_wp2_with fail
       go_roundw
       case rel=>exact⟨a+1,nb,by go_num,by omega,by unfold Hid;rw [hsn.out,hfin2.out],zhV,hx5⟩
       case measure=>simp [intOf];omega
    ·obtain rfl:a=out.length:=by omega
     have hfin3:=za (show nx=fwd (KK.take (k+1)) by rw [hstep.out,hnx.out,List.take_length])
     have hx6:=hx.trans (hw4.trans hx5)
     have hown6:=zl zhV (show w1.heap.size≤w4.heap.size from (hx.trans hw4).size)
     go_wp2_with fail
     go_roundw
     case rel=>exact⟨k+1,nx,by go_num,by omega,hfin3,hown6,hx6⟩
     case measure=>simp [intOf];omega
  ·obtain rfl:n=k:=by omega
   have zhM:=za (show out=pnx (zaS ss us) x l by rw [hout.out,List.take_of_length_le (by have:=Hlen.out;omega)];exact Hfin.out)
   have hres:=za (show zbq w (pnx (zaS ss us) x l) (.returned (.slice A0 out.length c0)) wr from by
    rw [← zhM.out]
    exact⟨A0,c0,rfl,zl zhJ hsz2,hw1.trans hx⟩)
   clear zhJ
   go_wp2
   go_ret
   exact hres.out
theorem info_intss:(Tryz.prog.info? 23).map (fun i=>(i.zero,i.size,i.bytes))=some (some (.slice none 0 0),1,24):=by kernel_rfl
def mvs (d:Nat→Nat→List Nat) (L:List Nat) (N:Nat):List (List (List Nat)):=(List.range N).map fun x=>L.map fun l=>d x l
theorem zcj (d:Nat→Nat→List Nat) (L:List Nat) (N:Nat):(mvs d L N).length=N:=by simp [mvs]
abbrev P3:Lay (List (List Nat)):=LstP (LstP zbf)
theorem P3.ok:Lay.Ok P3:=LstP.ok (LstP.ok zbf.ok)
def RetMv (w:World) (mv:List (List (List Nat))) (e:Ending) (w':World):Prop:=∃ A c,e=.returned (.slice A mv.length c)∧Lst P3 w' w.heap.size w'.heap.size A mv∧Ext w w'
theorem spec_l4Moves {PA AA SA:Option Addr} {pn pc an ac n sc lo hi:Nat} {sv:Value} {K G:Int} {L N:Nat} {ss:List Sys} {us:List Aut} {w:World}(h:zeb w PA pn AA an ss us)(hok:zco ss us)(hS:Lst zbf w lo hi SA (szs ss us))(hn:(szs ss us).length=n)(hL:L<64)(hN:N≤1048576) :
  Calls Tryz.prog 207 #[.agg #[.slice PA pn pc,.slice AA an ac,sv,.int .i64 L,.int .i64 K,.int .i64 G],.slice SA n sc,.int .i64 N] w (RetMv w (mvs (pnx (zaS ss us)) (letters L 6) N)):=by
 have hw1:Ext w (w.alloc (.cells #[.slice PA pn pc,.slice AA an ac,sv,.int .i64 L,.int .i64 K,.int .i64 G] 178)):=(Ext.refl w).alloc _
 have hb1:=Blk.new w 178 #[.slice PA pn pc,.slice AA an ac,sv,.int .i64 L,.int .i64 K,.int .i64 G]
 have HN:=za (fun W (hW:Ext w W)=>h.ext hW)
 have HS:=za (fun W (hW:Ext w W)=>hS.ext zbf.ok hW)
 have Hok:=za hok
 have Hn:=za hn
 have hn5:n≤5:=by rw [← hn];exact hok.len
 have Hz:=za hok.le16
 have hLs:Sm L:=by unfold Sm;omega
 have hll:=zq L 6
 have Hl6:=za (show ∀ l∈letters L 6,l<6 from fun l hl=>(zX.1 hl).1)
 clear h hok hS hn
 go_enter Tryz.func207,Tryz.ntmps207
 go_upto_region 1 with fail
 generalize w.alloc (.cells #[.slice PA pn pc,.slice AA an ac,sv,.int .i64 L,.int .i64 K,.int .i64 G] 178)=w1 at *
 go_upto_region 2 with fail
 have hx2:=(Ext.refl w1).alloc (.cells #[] 23)
 have hsz2:w.heap.size≤w1.heap.size:=hw1.size
 have zhT:=World.ownsRow_lit (base:=w1.heap.size) (e:=23) (size:=1) w1 #[] 0 (Nat.le_refl _) (by unfold maxLen;omega) rfl
 have hob2:∀ b,(Value.slice (some ⟨w1.heap.size,0,none⟩) 0 0).ownBlock=some b→b<(w1.alloc (.cells #[] 23)).heap.size:=fun b hb=>by
  simp [Value.ownBlock] at hb
  simp;omega
 generalize hg1:(some ⟨w1.heap.size,0,none⟩:Option Addr)=A1 at *
 clear hg1
 generalize w1.alloc (.cells #[] 23)=w2 at *
 have c2:=(hb1.ext hx2).cell
 go_upto_region 3 with (go_at_call 61;refine (zJ L hLs _).mono ?_;rintro e w3 ⟨AL,cL,rfl,hownL,hx3⟩)
 have hx23:=hx2.trans hx3
 have hlst3:=Lst.own_nats hownL
 have hsz23:=hx3.size
 have zhU:=ze zhT hx3
 clear zhT hownL hx2 hx3 c2
 generalize hlq:letters L 6=LL at *
 have Hlq:=za hlq
 clear hlq
 go_wp2_with fail
 go_loopw [7,9,10,11,12] (fun v i _ _ _ wr=>∃ k:Nat,i=.int .i64 k∧k≤N∧Grl P3 wr w1.heap.size 23 v (mvs (pnx (zaS ss us)) LL k)∧Ext w1 wr∧Lst zbf wr w2.heap.size w3.heap.size AL LL∧(∀ b,v.ownBlock=some b→b<w2.heap.size∨w3.heap.size≤b)∧w3.heap.size≤wr.heap.size) (fun _ i _ _ _ _=>N - (intOf i).toNat)
 case atStart=>exact⟨0,rfl,Nat.zero_le _,⟨[],zhU,fun i r x hr=>by simp at hr⟩,hx23,hlst3,fun b hb=>Or.inl (hob2 b hb),Nat.le_refl _⟩
 case round =>
  clear zhU hlst3 hob2
  obtain⟨k,rfl,hk,hgr,hx,hlst3,hob,hs3⟩:=hrel
  have hkl:=zcj (pnx (zaS ss us)) LL k
  obtain⟨A0,c0,rfl⟩:=hgr.form
  rw [hkl]
  rw [hkl] at hob
  have Hob:=za hob
  clear hob
  by_cases hlt:k<N
  ·have hww:=hw1.trans hx
   have Hsn:=za (show mvs (pnx (zaS ss us)) LL (k+1)=mvs (pnx (zaS ss us)) LL k++[LL.map fun l=>pnx (zaS ss us) k l] by simp [mvs,List.range_succ])
   rw [hkl] at hgr
   go_upto_region 7 with (go_at_call 209;refine (zer (HS.out _ hww) Hn.out (by omega) Hz.out (by omega)).mono ?_;rintro e w4 ⟨A4,c4,rfl,hown4,hx4⟩)
   have hln:(dec (szs ss us) k).length=n:=by rw [zcg];exact Hn.out
   rw [hln] at hown4
   rw [hln]
   have HT:=za (fun W (hW:Ext w4 W)=>(Lst.own_nats (xs:=dec (szs ss us) k) (c:=c4) (A:=A4) (by rw [hln];exact hown4)).ext zbf.ok hW)
   clear hown4
   go_upto_region 8 with fail
   have hx5:=(Ext.refl w4).alloc (.cells #[] 74)
   have zhV:=World.ownsRow_lit (base:=w4.heap.size) (e:=74) (size:=1) w4 #[] 0 (Nat.le_refl _) (by unfold maxLen;omega) rfl
   generalize hg1:(some ⟨w4.heap.size,0,none⟩:Option Addr)=A5 at *
   clear hg1
   generalize w4.alloc (.cells #[] 74)=w5 at *
   have hw4:=hww.trans hx4
   have CBx:=za (fun W (hW:Ext w4 W)=>((hb1.ext (hx.trans hx4)).ext hW).cell)
   have HL:=za (fun W (hW:Ext w4 W)=>hlst3.ext zbf.ok (hx4.trans hW))
   go_wp2_with fail
   go_loopw [11,12] (fun v i wr=>∃ j:Nat,i=.int .i64 j∧j≤LL.length∧Grl (LstP zbf) wr w4.heap.size 74 v ((LL.take j).map fun l=>pnx (zaS ss us) k l)∧Ext w4 wr) (fun _ i _=>LL.length - (intOf i).toNat)
   case atStart=>exact⟨0,rfl,Nat.zero_le _,⟨[],zhV,fun i r x hr=>by simp at hr⟩,hx5⟩
   case round =>
    clear zhV hx5
    obtain⟨j,rfl,hj,hrw,hx5⟩:=hrel
    obtain⟨A6,c6,rfl⟩:=hrw.form
    have hjl:((LL.take j).map fun l=>pnx (zaS ss us) k l).length=j:=by simp;omega
    rw [hjl]
    rw [hjl] at hrw
    by_cases hlj:j<LL.length
    ·obtain⟨bl,ol,l,rfl,_,_,hl,hcl⟩:=(HL.out _ hx5).num hlj
     have hl6:=Hl6.out l (List.mem_of_getElem? hl.out)
     have hsn:=za (show (LL.take (j+1)).map (fun l=>pnx (zaS ss us) k l)=(LL.take j).map (fun l=>pnx (zaS ss us) k l)++[pnx (zaS ss us) k l] by rw [List.take_add_one,hl.out];simp)
     have CL:∀ W,Ext wr W→W.cell? ⟨bl,ol+j,none⟩=some (.int .i64 (l:Nat)):=fun W hW=>hW.cell_some hcl
     have CB:∀ W,Ext wr W→∀ q,W.cell? ⟨w.heap.size,q,none⟩=#[Value.slice PA pn pc,.slice AA an ac,sv,.int .i64 L,.int .i64 K,.int .i64 G][q]?:=fun W hW=>CBx.out W (hx5.trans hW)
     have CC:=za (show ∀ W,Ext wr W→Calls Tryz.prog 242 #[.agg #[.slice PA pn pc,.slice AA an ac,sv,.int .i64 L,.int .i64 K,.int .i64 G],.slice SA n sc,.slice A4 n c4,.int .i64 l] W (zbq W (pnx (zaS ss us) k l)) from fun W hW=>spec_l4Nexts (HN.out W ((hw4.trans hx5).trans hW)) Hok.out (HS.out W ((hw4.trans hx5).trans hW)) (HT.out W (hx5.trans hW)) Hn.out hl6)
     have hji:(j:Int)<(LL.length:Int):=by omega
     have hww5:=Ext.refl wr
     obtain⟨rows,hro,hrp⟩:=hrw
     rw [hjl] at hro
     clear hcl
     go_upto_region 11 with fail
     refine uR (fun X=>Ext wr X) [8,9,10] (zK.of [0,1,2,3,4,5,6,7,8,9,10,11]) ?_
     refine uQ ?_
     refine zg fun K hK=>?_
     go_simp
     refine (CC.out _ hww5.drew).mono ?_
     rintro e w7 ⟨A7,c7,rfl,hown7,hx7⟩
     have hww7:=hww5.drew.trans hx7
     refine hK.out _ _ ?_
     refine pT ?_
     refine zg fun K hK=>?_
     go_simp
     refine hK.out _ _ ?_
     refine pT ?_
     refine zg fun K hK=>?_
     refine zaC w4 w7 _ _ _ rfl 74 _ 1 24 Tryz.underlying23 zbj rfl (by decide) (.slice A6 j c6) j rows _ _ rfl rfl (hx5.trans hww7).size (ze hro hww7) rfl (zat _ _ _) (by unfold maxLen;omega) (by omega) ?_
     intro g8 cap8 w8 hown8 hg8 hat8 hlt8
     refine hK.out _ _ ?_
     refine pT ?_
     refine uQ ?_
     refine zj ?_
     have hgr8:Grl (LstP zbf) w8 w4.heap.size 74 (.slice (some ⟨g8,0,none⟩) (j+1) cap8) ((LL.take j).map (fun l=>pnx (zaS ss us) k l)++[pnx (zaS ss us) k l]):=by
      have:=Grl.push2 (LstP.ok zbf.ok) (v:=.slice A6 j c6) (xs:=(LL.take j).map fun l=>pnx (zaS ss us) k l) (g:=g8) (cap:=cap8) hrp (by rw [hjl];exact hro) hww7 ⟨A7,c7,rfl,Lst.own_nats hown7⟩ (Nat.le_refl wr.heap.size) hx5.size (Nat.le_refl _) (by rw [hjl];exact hown8) hg8 hat8
      rwa [hjl] at this
     have hx8:Ext w4 w8:=(hx5.trans hww7).grown hg8 (fun q' hq'=>(hro.lt q' hq').1)
     go_wp2_with fail
     go_roundw
     case rel=>exact⟨j+1,by go_num,by omega,by rw [hsn.out];exact hgr8,hx8⟩
     case measure=>simp [intOf];omega
    ·obtain rfl:j=LL.length:=by omega
     rw [List.take_length] at hrw
     have hw5:=hx4.trans hx5
     have hlst:=hrw.lst (LstP.ok zbf.ok)
     obtain⟨rows,hro,hrp⟩:=hgr
     rw [hkl] at hro
     go_wp2_with (at_builtin;refine zI w1 wr rfl _ _ _ rfl 23 _ 1 24 Tryz.underlying224 info_intss rfl (by decide) (.slice A0 k c0) k rows _ _ rfl rfl (hx.trans hw5) (ze hro hw5) rfl (zat _ _ _) (by unfold maxLen;omega) (by omega) ?_;intro v8 w8 hext8 hown8 hg8 hat8)
     have hgr8:Grl P3 w8 w1.heap.size 23 v8 (mvs (pnx (zaS ss us)) LL k++[LL.map fun l=>pnx (zaS ss us) k l]):=
      Grl.push P3.ok (v:=.slice A0 k c0) hrp (by rw [hkl];exact hro) hw5 (⟨A6,c6,by simp,hlst⟩:P3 _ _ _ (.slice A6 LL.length c6) _) hx4.size (hx.trans hx4).size (Nat.le_refl _) (by rw [hkl];exact hown8) hg8 hat8
     have hlst8:Lst zbf w8 w2.heap.size w3.heap.size AL LL:=(hlst3.ext zbf.ok hw5).frm zbf.ok (Frm.of_grown hg8) (fun q h1 h2 hq=>by have:=Hob.out q hq;omega)
     have hob8:∀ b,v8.ownBlock=some b→b<w2.heap.size∨w3.heap.size≤b:=fun b hb=>by
      rcases hat8 with h1|h1
      ·rw [h1] at hb;exact Hob.out b hb
      ·rw [h1] at hb
       have:=Option.some.inj hb
       have:=hw5.size
       omega
     have hs8:w3.heap.size≤w8.heap.size:=by have:=hw5.size;have:=(Frm.of_grown hg8).size;omega
     go_roundw
     case rel=>exact⟨k+1,by go_num,by omega,by rw [Hsn.out];exact hgr8,hext8,hlst8,hob8,hs8⟩
     case measure=>simp [intOf];omega
  ·obtain rfl:N=k:=by omega
   have hres:=za (show RetMv w (mvs (pnx (zaS ss us)) LL N) (.returned (.slice A0 N c0)) wr from by
    refine⟨A0,c0,by rw [hkl],?_,hw1.trans hx⟩
    have:=hgr.lst P3.ok
    exact this.more P3.ok hsz2 (Nat.le_refl _))
   clear hgr
   go_wp2
   go_ret
   exact hres.out
section
variable (d:Nat→Nat→List Nat) (L:List Nat) (goal:Nat→Bool)
def Dn:Nat→Nat→Prop
 |0,x=>goal x=true
 |n+1,x=>∃ l∈L,∃ y∈d x l,Dn n y
def Mn (n x:Nat):Prop:=Dn d L goal n x∧∀ m,m<n→¬ Dn d L goal m x
end
section
variable {d:Nat→Nat→List Nat} {L:List Nat} {goal:Nat→Bool} {start:List Nat} {N:Nat}
theorem Dn.word:∀ {n x:Nat} {v:List Nat},Dn d L goal n x→zdd d start v x→∃ u:List Nat,u.length=n∧(∀ l∈u,l∈L)∧∃ y,zdd d start (v++u) y∧goal y=true:=by
 intro n
 induction n with
 |zero=>intro x v h hg;exact⟨[],rfl,by simp,x,by simpa using hg,h⟩
 |succ n ih =>
  intro x v h hg
  obtain⟨l,hl,y,hy,h⟩:=h
  obtain⟨u,h1,h2,z,h3,h4⟩:=ih h (.snoc hg hy)
  refine⟨l :: u,by simp [h1],?_,z,by simpa using h3,h4⟩
  intro k hk
  rcases List.mem_cons.1 hk with rfl|hk
  ·exact hl
  ·exact h2 k hk
theorem zdd.dn:∀ {u v:List Nat} {y:Nat},zdd d start (v++u) y→goal y=true→(∀ l∈u,l∈L)→∃ x,zdd d start v x∧Dn d L goal u.length x:=by
 intro u
 induction u with
 |nil=>intro v y h hg _;exact⟨y,by simpa using h,hg⟩
 |cons l u ih =>
  intro v y h hg hl
  have h':zdd d start ((v++[l])++u) y:=by simpa using h
  obtain⟨x,h1,h2⟩:=ih h' hg (fun k hk=>hl k (by simp [hk]))
  obtain⟨n,hn,hx⟩:=h1.inv
  exact⟨n,hn,l,hl l (by simp),x,hx,h2⟩
theorem Dn.least {n x:Nat}(h:Dn d L goal n x):∃ m,m≤n∧Mn d L goal m x:=by
 induction n using Nat.strongRecOn with
 |_ n ih =>
  by_cases hm:∃ m,m<n∧Dn d L goal m x
  ·obtain⟨m,h1,h2⟩:=hm
   obtain⟨k,h3,h4⟩:=ih m h1 h2
   exact⟨k,by omega,h4⟩
  ·exact⟨n,Nat.le_refl _,h,fun m h1 h2=>hm ⟨m,h1,h2⟩⟩
theorem Mn.next {n x:Nat}(h:Mn d L goal (n+1) x):∃ l∈L,∃ y∈d x l,Mn d L goal n y:=by
 obtain⟨⟨l,hl,y,hy,h1⟩,h2⟩:=h
 exact⟨l,hl,y,hy,h1,fun m hm hd=>h2 (m+1) (by omega) ⟨l,hl,y,hy,hd⟩⟩
theorem Mn.uniq {m n x:Nat}(h:Mn d L goal m x) (k:Mn d L goal n x):m=n:=by
 rcases Nat.lt_trichotomy m n with h1|h1|h1
 ·exact absurd h.1 (k.2 m h1)
 ·exact h1
 ·exact absurd k.1 (h.2 n h1)
def Dst (d:Nat→Nat→List Nat) (L:List Nat) (goal:Nat→Bool) (k:Nat) (x:Nat) (v:Int):Prop:=(v = -1∧∀ m,m<k→¬ Dn d L goal m x)∨∃ n:Nat,n<k∧v=n∧Mn d L goal n x
def zaX (d:Nat→Nat→List Nat) (L:List Nat) (goal:Nat→Bool) (N k i:Nat) (ds:List Int):Prop:=ds.length=N∧∀ (x:Nat) (v:Int),ds[x]?=some v→Dst d L goal (if x<i then k+1 else k) x v
theorem zaX.round_ {k:Nat} {ds:List Int}(h:zaX d L goal N k N ds):zaX d L goal N (k+1) 0 ds:=⟨h.1,fun x v hx=>by
 have h1:=h.2 x v hx
 have h2:=(List.getElem?_eq_some_iff.1 hx).1
 rw [if_pos (by rw [← h.1];exact h2)] at h1
 rw [if_neg (by omega)]
 exact h1⟩
theorem zaX.init {ds:List Int}(hl:ds.length=N)(h:∀ (x:Nat) (v:Int),ds[x]?=some v→v=if goal x then 0 else -1):zaX d L goal N 1 0 ds:=⟨hl,fun x v hx=>by
 rw [if_neg (by omega)]
 have:=h x v hx
 cases hg:goal x
 ·rw [hg] at this
  refine Or.inl ⟨by simpa using this,fun m hm=>?_⟩
  obtain rfl:m=0:=by omega
  simp [Dn,hg]
 ·rw [hg] at this
  exact Or.inr ⟨0,by omega,by simpa using this,hg,fun m hm=>by omega⟩⟩
theorem zaX.skip {k i:Nat} {ds:List Int} {v:Int}(h:zaX d L goal N k i ds)(hv:ds[i]?=some v)(h0:0≤v):zaX d L goal N k (i+1) ds:=⟨h.1,fun x u hx=>by
 have h1:=h.2 x u hx
 by_cases hxi:x=i
 ·subst hxi
  rw [hv] at hx
  obtain rfl:=Option.some.inj hx
  rw [if_pos (by omega)]
  rw [if_neg (by omega)] at h1
  rcases h1 with ⟨h2,_⟩|⟨n,h2,h3⟩
  ·omega
  ·exact Or.inr ⟨n,by omega,h3⟩
 ·by_cases h2:x<i
  ·rw [if_pos h2] at h1
   rw [if_pos (by omega)]
   exact h1
  ·rw [if_neg h2] at h1
   rw [if_neg (by omega)]
   exact h1⟩
def zhf (d:Nat→Nat→List Nat) (L:List Nat) (ds:List Int) (k:Nat) (x:Nat):Bool:=L.any fun l=>(d x l).any fun y=>ds.getD y (-1)==(k:Int)
theorem near_iff {ds:List Int} {k x:Nat}:zhf d L ds k x=true↔∃ l∈L,∃ y∈d x l,ds[y]?=some (k:Int):=by
 simp only [zhf,List.any_eq_true,beq_iff_eq]
 constructor
 ·rintro ⟨l,hl,y,hy,h⟩
  refine⟨l,hl,y,hy,?_⟩
  rw [List.getD_eq_getElem?_getD] at h
  cases hh:ds[y]? with
  |none=>rw [hh] at h;simp at h
  |some v=>rw [hh] at h;simp at h;rw [h]
 ·rintro ⟨l,hl,y,hy,h⟩
  exact⟨l,hl,y,hy,by rw [List.getD_eq_getElem?_getD,h];rfl⟩
theorem zaX.near {k i:Nat} {ds:List Int} {v:Int}(h:zaX d L goal N (k+1) i ds)(hd:∀ x l,x<N→l∈L→∀ y∈d x l,y<N)(hv:ds[i]?=some v)(h0:v<0):zhf d L ds k i=true↔Mn d L goal (k+1) i:=by
 have hiN:i<N:=by rw [← h.1];exact (List.getElem?_eq_some_iff.1 hv).1
 have hi:=h.2 i v hv
 rw [if_neg (by omega)] at hi
 have hno:∀ m,m<k+1→¬ Dn d L goal m i:=by
  rcases hi with ⟨_,h1⟩|⟨n,_,h2,_⟩
  ·exact h1
  ·omega
 have val:∀ y (n:Nat),ds[y]?=some (n:Int)→Mn d L goal n y:=fun y n hy=>by
  rcases h.2 y _ hy with ⟨h1,_⟩|⟨m,_,h1,h2⟩
  ·omega
  ·obtain rfl:n=m:=by omega
   exact h2
 rw [near_iff]
 constructor
 ·rintro ⟨l,hl,y,hy,hyk⟩
  exact⟨⟨l,hl,y,hy,(val y k hyk).1⟩,hno⟩
 ·rintro ⟨⟨l,hl,y,hy,h1⟩,_⟩
  refine⟨l,hl,y,hy,?_⟩
  have hyN:y<ds.length:=by rw [h.1];exact hd i l hiN hl y hy
  have hyv:ds[y]?=some ds[y]:=List.getElem?_eq_getElem hyN
  rw [hyv]
  congr 1
  rcases h.2 y _ hyv with ⟨_,h2⟩|⟨n,_,h2,h3⟩
  ·exact absurd h1 (h2 k (by split<;>omega))
  ·rw [h2]
   rcases Nat.lt_trichotomy n k with h4|h4|h4
   ·exact absurd ⟨l,hl,y,hy,h3.1⟩ (hno (n+1) (by omega))
   ·rw [h4]
   ·exact absurd h1 (h3.2 k h4)
theorem zaX.keep {k i:Nat} {ds:List Int} {v:Int}(h:zaX d L goal N (k+1) i ds)(hd:∀ x l,x<N→l∈L→∀ y∈d x l,y<N)(hv:ds[i]?=some v)(h0:v<0)(hn:zhf d L ds k i=false):zaX d L goal N (k+1) (i+1) ds:=⟨h.1,fun x u hx=>by
 have h1:=h.2 x u hx
 by_cases hxi:x=i
 ·subst hxi
  have hM:¬ Mn d L goal (k+1) x:=fun hm=>by rw [(h.near hd hv h0).2 hm] at hn;cases hn
  rw [hv] at hx
  obtain rfl:=Option.some.inj hx
  rw [if_pos (by omega)]
  rw [if_neg (by omega)] at h1
  rcases h1 with ⟨h2,h3⟩|⟨n,h2,h3,_⟩
  ·refine Or.inl ⟨h2,fun m hm hdm=>?_⟩
   by_cases he:m=k+1
   ·subst he
    exact hM ⟨hdm,h3⟩
   ·exact h3 m (by omega) hdm
  ·omega
 ·by_cases h2:x<i
  ·rw [if_pos h2] at h1
   rw [if_pos (by omega)]
   exact h1
  ·rw [if_neg h2] at h1
   rw [if_neg (by omega)]
   exact h1⟩
theorem zaX.put {k i:Nat} {ds:List Int} {v:Int}(h:zaX d L goal N (k+1) i ds)(hd:∀ x l,x<N→l∈L→∀ y∈d x l,y<N)(hv:ds[i]?=some v)(h0:v<0)(hn:zhf d L ds k i=true):zaX d L goal N (k+1) (i+1) (ds.set i ((k+1:Nat):Int)):=⟨by rw [List.length_set];exact h.1,fun x u hx=>by
 by_cases hxi:x=i
 ·subst hxi
  rw [List.getElem?_set_self (List.getElem?_eq_some_iff.1 hv).1] at hx
  obtain rfl:=Option.some.inj hx
  rw [if_pos (by omega)]
  exact Or.inr ⟨k+1,by omega,rfl,(h.near hd hv h0).1 hn⟩
 ·rw [List.getElem?_set_ne (fun e=>hxi e.symm)] at hx
  have h1:=h.2 x u hx
  by_cases h2:x<i
  ·rw [if_pos h2] at h1
   rw [if_pos (by omega)]
   exact h1
  ·rw [if_neg h2] at h1
   rw [if_neg (by omega)]
   exact h1⟩
theorem set_count {ds:List Int} {i:Nat} {v u:Int}(hv:ds[i]?=some v)(h0:v = -1)(hu:0≤u):(ds.set i u).count (-1)+1=ds.count (-1):=by
 obtain⟨hi,e⟩:=List.getElem?_eq_some_iff.1 hv
 have hpos:1≤ds.count (-1):=List.count_pos_iff.2 (by rw [← h0,← e];exact List.getElem_mem hi)
 rw [List.count_set hi,e,h0]
 have:(u==(-1:Int))=false:=by simp;omega
 simp [this]
 omega
def DsFin (d:Nat→Nat→List Nat) (L:List Nat) (goal:Nat→Bool) (N:Nat) (ds:List Int):Prop:=ds.length=N∧∀ (x:Nat) (v:Int),ds[x]?=some v→(v = -1∧∀ m,¬ Dn d L goal m x)∨∃ n:Nat,v=n∧Mn d L goal n x
theorem zaX.fin {k:Nat} {ds:List Int}(h:zaX d L goal N k N ds)(hd:∀ x l,x<N→l∈L→∀ y∈d x l,y<N)(hno:∀ x,x<N→¬ Mn d L goal k x):DsFin d L goal N ds:=by
 have up:∀ n x,x<N→¬ Mn d L goal (k+n) x:=by
  intro n
  induction n with
  |zero=>exact hno
  |succ n ih =>
   intro x hx hm
   obtain⟨l,hl,y,hy,h1⟩:=hm.next
   exact ih y (hd x l hx hl y hy) h1
 refine⟨h.1,fun x v hx=>?_⟩
 have hxN:x<N:=by rw [← h.1];exact (List.getElem?_eq_some_iff.1 hx).1
 have h1:=h.2 x v hx
 rw [if_pos hxN] at h1
 rcases h1 with ⟨h2,h3⟩|⟨n,_,h3⟩
 ·refine Or.inl ⟨h2,fun m hm=>?_⟩
  obtain⟨m',_,h4⟩:=hm.least
  by_cases h5:m'<k
  ·exact h3 m' (by omega) h4.1
  ·have:=up (m' - k) x hxN
   rw [show k+(m' - k)=m' by omega] at this
   exact this h4
 ·exact Or.inr ⟨n,h3⟩
theorem DsFin.val {ds:List Int}(h:DsFin d L goal N ds) {x n:Nat}(hx:x<N):ds[x]?=some (n:Int)↔Mn d L goal n x:=by
 have hl:x<ds.length:=by rw [h.1];exact hx
 have hv:ds[x]?=some ds[x]:=List.getElem?_eq_getElem hl
 constructor
 ·intro h1
  rcases h.2 x _ h1 with ⟨h2,_⟩|⟨m,h2,h3⟩
  ·omega
  ·obtain rfl:n=m:=by omega
   exact h3
 ·intro hm
  rw [hv]
  rcases h.2 x _ hv with ⟨_,h2⟩|⟨m,h2,h3⟩
  ·exact absurd hm.1 (h2 n)
  ·rw [h2,h3.uniq hm]
theorem wval_lt (w:List Nat)(h:∀ l∈w,l<6):zdF w<7 ^ w.length∧7 ^ w.length≤6*zdF w+1:=by
 have key:∀ n (w:List Nat),w.length=n→(∀ l∈w,l<6)→zdF w<7 ^ n∧7 ^ n≤6*zdF w+1:=by
  intro n
  induction n with
  |zero =>
   intro w hw _
   obtain rfl:=List.eq_nil_of_length_eq_zero hw
   simp [zdF]
  |succ n ih =>
   intro w hw hl
   rcases zbc w with rfl|⟨u,l,rfl⟩
   ·simp at hw
   ·have h1:=ih u (by simpa using hw) (fun x hx=>hl x (by simp [hx]))
    have h2:=hl l (by simp)
    rw [zbA,Nat.pow_succ]
    omega
 exact key w.length w rfl h
theorem zga {u v:List Nat}(hu:∀ l∈u,l<6)(hv:∀ l∈v,l<6)(h:v.length<u.length):zdF v<zdF u:=by
 have h1:=wval_lt u hu
 have h2:=wval_lt v hv
 have h3:7 ^ (v.length+1)≤7 ^ u.length:=Nat.pow_le_pow_right (by omega) h
 rw [Nat.pow_succ] at h3
 omega
structure zcE (d:Nat→Nat→List Nat) (L:List Nat) (goal:Nat→Bool) (start:List Nat) (at_:List Nat) (v:List Nat) (r:Nat):Prop where
 goes:∀ x∈at_,zdd d start v x∧Mn d L goal r x
 all:∀ x,zdd d start v x→Dn d L goal r x→x∈at_
 first:∀ u:List Nat,(∀ l∈u,l∈L)→u.length=v.length→zdF u<zdF v→∀ x,zdd d start u x→¬ Dn d L goal r x
 least:∀ u:List Nat,(∀ l∈u,l∈L)→u.length<v.length+r→∀ x,zdd d start u x→goal x=false
 letters:∀ l∈v,l∈L
 some_:at_≠[]
theorem zcE.begin_ {x r:Nat}(h:Mn d L goal r x):zcE d L goal [x] [x] [] r:=by
 refine⟨fun y hy=>?_,fun y hy _=>hy.inv_nil,fun u _ hu=>?_,fun u hl hu y hy=>?_,by simp,by simp⟩
 ·simp at hy;subst hy
  exact⟨.nil (by simp),h⟩
 ·simp at hu;subst hu
  intro h;simp [zdF] at h
 ·simp at hu
  cases hg:goal y
  ·rfl
  ·exfalso
   obtain⟨z,hz,hd⟩:=zdd.dn (v:=[]) (u:=u) (by simpa using hy) hg hl
   have:=hz.inv_nil
   simp at this
   subst this
   exact h.2 u.length (by omega) hd
theorem zcE.fin {at_ v:List Nat}(h:zcE d L goal start at_ v 0)(hL:∀ l∈L,l<6):Found d start goal L v:=by
 refine⟨h.letters,?_,fun u hu hlt x hx=>?_⟩
 ·obtain⟨x,hx⟩:=List.exists_mem_of_ne_nil _ h.some_
  exact⟨x,(h.goes x hx).1,(h.goes x hx).2.1⟩
 ·rcases Nat.lt_trichotomy u.length v.length with h1|h1|h1
  ·exact h.least u hu (by omega) x hx
  ·have:=h.first u hu h1 hlt x hx
   cases hg:goal x
   ·rfl
   ·exact absurd hg this
  ·have:=zga (u:=u) (v:=v) (fun l hl=>hL l (hu l hl)) (fun l hl=>hL l (h.letters l hl)) h1
   omega
theorem zcE.exists_ {at_ v:List Nat} {r:Nat}(h:zcE d L goal start at_ v (r+1)):∃ (k l:Nat),L[k]?=some l∧∃ x n,n∈at_∧x∈d n l∧Mn d L goal r x:=by
 obtain⟨n,hn⟩:=List.exists_mem_of_ne_nil _ h.some_
 obtain⟨l,hl,y,hy,h1⟩:=(h.goes n hn).2.next
 obtain⟨k,hk⟩:=List.getElem?_of_mem hl
 exact⟨k,l,hk,y,n,hn,hy,h1⟩
theorem zcE.step {at_ v next:List Nat} {r k l:Nat}(h:zcE d L goal start at_ v (r+1))(hL:Rise L)(hk:L[k]?=some l)(hn:∀ x,x∈next↔∃ n∈at_,x∈d n l∧Mn d L goal r x)(hne:next≠[])
  (hno:∀ (j m:Nat),j<k→L[j]?=some m→∀ n∈at_,∀ x∈d n m,¬ Mn d L goal r x):zcE d L goal start next (v++[l]) r:=by
 have h6:∀ l∈L,l<6:=hL.1
 have hlL:=List.mem_of_getElem? hk
 have min_:∀ (u:List Nat),(∀ m∈u,m∈L)→u.length=v.length+1→∀ x,zdd d start u x→Dn d L goal r x→Mn d L goal r x:=by
  intro u hu hlen x hx hd
  refine⟨hd,fun m hm hdm=>?_⟩
  obtain⟨s,h1,h2,y,h3,h4⟩:=hdm.word hx
  have:=h.least (u++s) (fun z hz=>by
   rcases List.mem_append.1 hz with h5|h5
   ·exact hu z h5
   ·exact h2 z h5) (by rw [List.length_append];omega) y h3
  rw [this] at h4;cases h4
 refine⟨fun x hx=>?_,fun x hx hd=>?_,fun u hu hlen hlt x hx hd=>?_,fun u hu hlen=>?_,?_,hne⟩
 ·obtain⟨n,h1,h2,h3⟩:=(hn x).1 hx
  exact⟨.snoc (h.goes n h1).1 h2,h3⟩
 ·obtain⟨n,h1,h2⟩:=hx.inv
  have hn':n∈at_:=h.all n h1 ⟨l,hlL,x,h2,hd⟩
  exact (hn x).2 ⟨n,hn',h2,min_ (v++[l]) (fun m hm=>by
   rcases List.mem_append.1 hm with h5|h5
   ·exact h.letters m h5
   ·rw [List.mem_singleton.1 h5];exact hlL) (by simp) x hx hd⟩
 ·rcases zbc u with rfl|⟨u,m,rfl⟩
  ·simp at hlen
  ·obtain⟨n,h1,h2⟩:=hx.inv
   have hmL:=hu m (by simp)
   have hu':∀ z∈u,z∈L:=fun z hz=>hu z (by simp [hz])
   have hlen':u.length=v.length:=by simpa using hlen
   have hDn:Dn d L goal (r+1) n:=⟨m,hmL,x,h2,hd⟩
   rw [zbA,zbA] at hlt
   have hm6:=h6 m hmL
   have hl6:=h6 l hlL
   by_cases hw:zdF u<zdF v
   ·exact h.first u hu' hlen' hw n h1 hDn
   ·have e:zdF u=zdF v:=by omega
    obtain rfl:=wval_inj _ u v (Nat.le_refl _) (fun z hz=>h6 z (hu' z hz)) (fun z hz=>h6 z (h.letters z hz)) e
    obtain⟨j,hj⟩:=List.getElem?_of_mem hmL
    have hjk:j<k:=by
     rcases Nat.lt_trichotomy j k with h5|h5|h5
     ·exact h5
     ·subst h5
      rw [hk] at hj
      have:=Option.some.inj hj
      omega
     ·have:=hL.2 k j _ _ hk hj h5
      omega
    exact hno j m hjk hj n (h.all n h1 hDn) x h2 (min_ _ hu (by simp) x hx hd)
 ·exact h.least u hu (by rw [List.length_append,List.length_singleton] at hlen;omega)
 ·intro m hm
  rcases List.mem_append.1 hm with h5|h5
  ·exact h.letters m h5
  ·rw [List.mem_singleton.1 h5];exact hlL
theorem lost_of {x:Nat}(h:∀ m,¬ Dn d L goal m x):Lost d [x] goal L:=fun v hv y hy=>by
 cases hg:goal y
 ·rfl
 ·exfalso
  obtain⟨z,hz,hd⟩:=zdd.dn (v:=[]) (u:=v) (by simpa using hy) hg hv
  have:=hz.inv_nil
  simp at this
  subst this
  exact h _ hd
theorem goes_congr {d':Nat→Nat→List Nat} {start:List Nat} {N:Nat}(hs:∀ x∈start,x<N)(hd:∀ x l,x<N→l∈L→(∀ y,y∈d x l↔y∈d' x l)∧∀ y∈d x l,y<N) {v:List Nat}(hv:∀ l∈v,l∈L):∀ {x:Nat},(zdd d start v x↔zdd d' start v x)∧(zdd d start v x→x<N):=by
 have key:∀ n (v:List Nat),v.length=n→(∀ l∈v,l∈L)→∀ x,(zdd d start v x↔zdd d' start v x)∧(zdd d start v x→x<N):=by
  intro n
  induction n with
  |zero =>
   intro v hv _ x
   obtain rfl:=List.eq_nil_of_length_eq_zero hv
   exact⟨⟨fun h=>.nil h.inv_nil,fun h=>.nil h.inv_nil⟩,fun h=>hs x h.inv_nil⟩
  |succ n ih =>
   intro v hn hv x
   rcases zbc v with rfl|⟨u,l,rfl⟩
   ·simp at hn
   ·have hl:=hv l (by simp)
    have ih':=ih u (by simpa using hn) (fun m hm=>hv m (by simp [hm]))
    refine⟨⟨fun h=>?_,fun h=>?_⟩,fun h=>?_⟩
    ·obtain⟨m,h1,h2⟩:=h.inv
     exact .snoc ((ih' m).1.1 h1) (((hd m l ((ih' m).2 h1) hl).1 x).1 h2)
    ·obtain⟨m,h1,h2⟩:=h.inv
     have h3:=(ih' m).1.2 h1
     exact .snoc h3 (((hd m l ((ih' m).2 h3) hl).1 x).2 h2)
    ·obtain⟨m,h1,h2⟩:=h.inv
     exact (hd m l ((ih' m).2 h1) hl).2 x h2
 exact fun {x}=>key v.length v rfl hv x
theorem zdL {l:List Nat}(h:l.Nodup) {p:Nat}(hl:∀ x∈l,x<p):l.length≤p:=by
 have h1:l ⊆ List.range p:=fun x hx=>List.mem_range.2 (hl x hx)
 have:=List.Nodup.length_le_of_subset h h1
 simpa using this
theorem Mn.lt {n x:Nat}(h:Mn d L goal n x)(hx:x<N)(hd:∀ x l,x<N→l∈L→∀ y∈d x l,y<N):n<N:=by
 have all:∀ n x,x<N→Mn d L goal n x→∃ ys:List Nat,ys.length=n+1∧ys.Nodup∧∀ y∈ys,y<N∧∃ m,m≤n∧Mn d L goal m y:=by
  intro n
  induction n with
  |zero=>intro x hx h;exact⟨[x],rfl,by simp,fun y hy=>by simp at hy;subst hy;exact⟨hx,0,Nat.le_refl _,h⟩⟩
  |succ n ih =>
   intro x hx h
   obtain⟨l,hl,y,hy,h1⟩:=h.next
   obtain⟨ys,h2,h3,h4⟩:=ih y (hd x l hx hl y hy) h1
   refine⟨x :: ys,by simp [h2],List.nodup_cons.2 ⟨fun hm=>?_,h3⟩,fun z hz=>?_⟩
   ·obtain⟨_,m,hm1,hm2⟩:=h4 x hm
    have:=h.uniq hm2
    omega
   ·rcases List.mem_cons.1 hz with rfl|hz
    ·exact⟨hx,n+1,Nat.le_refl _,h⟩
    ·obtain⟨h5,m,h6,h7⟩:=h4 z hz
     exact⟨h5,m,by omega,h7⟩
 obtain⟨ys,h1,h2,h3⟩:=all n x hx h
 have:=zdL h2 fun y hy=>(h3 y hy).1
 omega
end
def IntP:Lay Int:=fun _ _ _ r n=>r=.int .i64 n
theorem IntP.ok:Lay.Ok IntP:=⟨fun h _ _=>h,fun h _ _=>h⟩
theorem Lst.of_ints {W:World} {lo hi:Nat} {A:Option Addr} {xs:List Int}(h:Reads W lo hi 1 A xs.length (ints xs)):Lst IntP W lo hi A xs:=⟨ints xs,h,fun i r x hr hx=>by
 simp only [ints,List.getElem?_map,hx,Option.map_some] at hr
 exact (Option.some.inj hr).symm⟩
theorem Lst.int {W:World} {lo hi k:Nat} {A:Option Addr} {xs:List Int}(h:Lst IntP W lo hi A xs)(hk:k<xs.length):∃ b o x,A=some ⟨b,o,none⟩∧lo≤b∧b<hi∧Hid (xs[k]?=some x)∧W.cell? ⟨b,o+k,none⟩=some (.int .i64 x):=by
 obtain⟨b,o,r,x,e,h1,h2,h3,h4,h5⟩:=h.get hk
 exact⟨b,o,x,e,h1,h2,h3,by rw [h4,h5]⟩
def nearL (rows:List (List Nat)) (ds:List Int) (k:Int):Bool:=rows.any fun ys=>ys.any fun y=>ds.getD y (-1)==k
theorem near_row {d:Nat→Nat→List Nat} {L:List Nat} {ds:List Int} {k x:Nat}:nearL (L.map fun l=>d x l) ds (k:Int)=zhf d L ds k x:=by
 unfold nearL zhf
 rw [List.any_map]
 rfl
theorem any_stop {α:Type} {l:List α} {p:α→Bool} {k:Nat} {x:α}(h:l[k]?=some x)(hp:p x=true):l.any p=true:=List.any_eq_true.2 ⟨x,List.mem_of_getElem? h,hp⟩
theorem any_step {α:Type} {l:List α} {p:α→Bool} {k:Nat} {x:α}(h:l[k]?=some x)(hk:(l.take k).any p=false)(hp:p x=false):(l.take (k+1)).any p=false:=by
 rw [List.take_add_one,h]
 simp [hk,hp]
theorem spec_l4Near {lo hi lo' hi' r n c c':Nat} {A B:Option Addr} {rows:List (List Nat)} {ds:List Int} {k:Int} {w:World}(h:Lst (LstP zbf) w lo hi A rows)(h':Lst IntP w lo' hi' B ds)(hr:rows.length=r)(hn:ds.length=n)(hb:∀ ys∈rows,∀ y∈ys,y<n) :
  Calls Tryz.prog 244 #[.slice A r c,.slice B n c',.int .i64 k] w fun e w'=>e=.returned (.bool (nearL rows ds k))∧w=w':=by
 have Hb:=za hb
 have Hr:=za hr
 have Hn:=za hn
 have hl1:=h.len
 have hl2:=h'.len
 rw [hr] at hl1
 rw [hn] at hl2
 clear hb hr hn
 go_enter Tryz.func244,Tryz.ntmps244
 go_wp2
 go_loop [7,8] (fun i _=>∃ a:Nat,i=.int .i64 a∧a≤r∧Hid ((rows.take a).any (fun ys=>ys.any fun y=>ds.getD y (-1)==k)=false)) (fun i _=>r - (intOf i).toNat)
 case atStart=>exact⟨0,rfl,Nat.zero_le _,rfl⟩
 case round =>
  obtain⟨a,rfl,ha,hno⟩:=hrel
  by_cases hlt:a<r
  ·obtain⟨b,o,v,ys,rfl,_,_,hys,hc,A',ca,rfl,hy⟩:=h.get (show a<rows.length by rw [Hr.out];exact hlt)
   have hly:=hy.len
   go_wp2
   go_loop [8] (fun i=>∃ j:Nat,i=.int .i64 j∧j≤ys.length∧Hid ((ys.take j).any (fun y=>ds.getD y (-1)==k)=false)) (fun i=>ys.length - (intOf i).toNat)
   case atStart=>exact⟨0,rfl,Nat.zero_le _,rfl⟩
   case round =>
    obtain⟨j,rfl,hj,hno2⟩:=hrel
    by_cases hlj:j<ys.length
    ·obtain⟨b2,o2,y,rfl,_,_,hyy,hc2⟩:=hy.num hlj
     have hyn:=Hb.out ys (List.mem_of_getElem? hys.out) y (List.mem_of_getElem? hyy.out)
     obtain⟨b3,o3,v,rfl,_,_,hv,hc3⟩:=h'.int (show y<ds.length by rw [Hn.out];exact hyn)
     have hgd:=za (show ds.getD y (-1)=v by rw [List.getD_eq_getElem?_getD,hv.out];rfl)
     by_cases hvk:v=k
     ·subst hvk
      have hres:=za (show nearL rows ds v=true from any_stop hys.out (any_stop hyy.out (by rw [hgd.out];simp)))
      go_wp2
      go_ret
      exact⟨zm (by rw [hres.out]),rfl⟩
     ·have hne:(v==k)=false:=by simp;omega
      have hst:=za (any_step (p:=fun y=>ds.getD y (-1)==k) hyy.out hno2.out (show (ds.getD y (-1)==k)=false by rw [hgd.out];exact hne))
      go_wp2
      go_round
      case rel=>exact⟨j+1,by go_num,by omega,hst⟩
      case measure=>simp [intOf];omega
    ·obtain rfl:j=ys.length:=by omega
     rw [List.take_length] at hno2
     have hst:=za (any_step (p:=fun ys=>ys.any fun y=>ds.getD y (-1)==k) hys.out hno.out hno2.out)
     go_wp2
     go_round
     case rel=>exact⟨a+1,by go_num,by omega,hst⟩
     case measure=>simp [intOf];omega
  ·obtain rfl:a=r:=by omega
   have hres:=za (show nearL rows ds k=false by
    have:=hno.out
    rw [List.take_of_length_le (by rw [Hr.out];exact Nat.le_refl _)] at this
    exact this)
   go_wp2
   go_ret
   exact⟨zm (by rw [hres.out]),rfl⟩
theorem zaX.known {d:Nat→Nat→List Nat} {L:List Nat} {goal:Nat→Bool} {N k i:Nat} {ds:List Int} {v:Int}(h:zaX d L goal N k i ds)(hv:ds[i]?=some v)(h0:0≤v):¬ Mn d L goal k i:=fun hm=>by
 have h1:=h.2 i v hv
 rw [if_neg (by omega)] at h1
 rcases h1 with ⟨h2,_⟩|⟨n,h2,_,h3⟩
 ·omega
 ·have:=h3.uniq hm
  omega
theorem zaX.neg {d:Nat→Nat→List Nat} {L:List Nat} {goal:Nat→Bool} {N k i:Nat} {ds:List Int} {x:Nat} {v:Int}(h:zaX d L goal N k i ds)(hv:ds[x]?=some v)(h0:v<0):v = -1:=by
 rcases h.2 x v hv with ⟨h2,_⟩|⟨n,_,h2,_⟩
 ·exact h2
 ·omega
def RetDs (d:Nat→Nat→List Nat) (L:List Nat) (goal:Nat→Bool) (N base gd cap:Nat) (w:World) (e:Ending) (w':World):Prop:=
 e=.returned (.tuple #[])∧∃ ds',Hid (DsFin d L goal N ds')∧w'.ownsRow base 3 1 (.slice (some ⟨gd,0,none⟩) N cap) N (ints ds')∧Frm (fun k=>k=gd) w w'
theorem spec_l4Dist {lo hi N base gd cap c:Nat} {A:Option Addr} {d:Nat→Nat→List Nat} {L:List Nat} {goal:Nat→Bool} {ds:List Int} {w:World}(h:Lst P3 w lo hi A (mvs d L N))(hg:gd<lo∨hi≤gd) (zhJ:w.ownsRow base 3 1 (.slice (some ⟨gd,0,none⟩) N cap) N (ints ds))(hds:zaX d L goal N 1 0 ds)(hN:N≤1048576)(hd:∀ x l,x<N→l∈L→∀ y∈d x l,y<N) :
  Calls Tryz.prog 210 #[.slice A N c,.slice (some ⟨gd,0,none⟩) N cap] w (RetDs d L goal N base gd cap w):=by
 have HM:=za (fun W (hW:Frm (fun k=>k=gd) w W)=>h.frm P3.ok hW (fun k h1 h2 e=>by omega))
 have Hd:=za hd
 have Hown:=za zhJ
 have Hds:=za hds
 clear h hd zhJ hds
 go_enter Tryz.func210,Tryz.ntmps210
 go_wp2
 go_loopw [4,5,6] (fun m v _ wr=>∃ (k:Nat) (ds:List Int) (mb:Bool),m=.bool mb∧v=.int .i64 ((k:Int)+1)∧k≤N+1∧Hid (if mb=true then zaX d L goal N (k+1) 0 ds∧k+ds.count (-1)≤N else DsFin d L goal N ds)∧wr.ownsRow base 3 1 (.slice (some ⟨gd,0,none⟩) N cap) N (ints ds)∧Frm (fun k=>k=gd) w wr) (fun _ v _ _=>N+3 - (intOf v).toNat)
 case atStart=>exact⟨0,ds,true,rfl,rfl,by omega,(show Hid _ from by
  rw [if_pos rfl]
  refine⟨Hds.out,?_⟩
  have:=List.count_le_length (l:=ds) (a:=(-1:Int))
  rw [Hds.out.1] at this
  omega),Hown.out,Frm.refl _ _⟩
 case round =>
  clear Hown Hds
  clear ds
  obtain⟨k,ds,mb,rfl,rfl,hk,hst,zhJ,hfr⟩:=hrel
  cases mb
  ·have zhM:=za (show RetDs d L goal N base gd cap w (.returned (.tuple #[])) wr from ⟨rfl,ds,(show DsFin d L goal N ds by have:=hst.out;simpa using this),zhJ,hfr⟩)
   clear zhJ
   go_wp2
   exact bodyPost_ret (v:=.tuple #[]) (by simp [results,Tryz.results210,go_sem]) rfl zhM.out
  ·obtain⟨hmid,hcnt⟩:zaX d L goal N (k+1) 0 ds∧k+ds.count (-1)≤N:=by have:=hst.out;simpa using this
   have Hmid:=za hmid
   clear hst hmid
   obtain⟨c0,hc0⟩:∃ c0,Hid (ds.count (-1)=c0):=⟨_,rfl⟩
   rw [hc0.out] at hcnt
   go_wp2
   go_loopw [4,6] (fun m i wr=>∃ (i':Nat) (ds:List Int) (mb:Bool),m=.bool mb∧i=.int .i64 i'∧i'≤N∧Hid (zaX d L goal N (k+1) i' ds∧ds.count (-1)+(if mb=true then 1 else 0)≤c0∧(mb=false→∀ x,x<i'→¬ Mn d L goal (k+1) x))∧wr.ownsRow base 3 1 (.slice (some ⟨gd,0,none⟩) N cap) N (ints ds)∧Frm (fun k=>k=gd) w wr) (fun _ i _=>N - (intOf i).toNat)
   case atStart=>exact⟨0,ds,false,rfl,rfl,Nat.zero_le _,(show Hid _ from ⟨Hmid.out,by rw [hc0.out];simp,fun _ x hx=>by omega⟩),zhJ,hfr⟩
   case round =>
    clear Hmid zhJ hfr hc0
    clear ds
    obtain⟨i,ds,mb,rfl,rfl,hi,hst,zhJ,hfr⟩:=hrel
    by_cases hlt:i<N
    ·have hlen:ds.length=N:=hst.out.1.1
     obtain⟨bi,oi,v,hA,_,_,hv,hcv⟩:=(Lst.of_ints (xs:=ds) (by rw [hlen];exact Reads.of_own zhJ)).int (show i<ds.length by omega)
     obtain⟨rfl,rfl⟩:gd=bi∧0=oi:=by injection hA with e;injection e with e1 e2;exact⟨e1,e2⟩
     rw [Nat.zero_add] at hcv
     clear hA
     by_cases hv0:v<0
     ·have hv1:=hst.out.1.neg hv.out hv0
      subst hv1
      obtain⟨bm,om,r,row,rfl,_,_,hrow,hcm,Ar,cr,rfl,hrw⟩:=(HM.out wr hfr).get (show i<(mvs d L N).length by rw [zcj];exact hlt)
      have hrw0:=za (show row=L.map fun l=>d i l by
       have h1:=hrow.out
       rw [mvs,List.getElem?_map,List.getElem?_range hlt] at h1
       exact (Option.some.inj h1).symm)
      have hnear:=za (show nearL row ds (k:Int)=zhf d L ds k i by rw [hrw0.out];exact near_row)
      have hlst:=Lst.of_ints (xs:=ds) (by rw [hlen];exact Reads.of_own zhJ)
      have HC:=za (spec_l4Near (c:=cr) (c':=cap) (k:=(k:Int)) hrw hlst rfl hlen (fun ys hys y hy=>by
       rw [hrw0.out] at hys
       obtain⟨l,hl,rfl⟩:=List.mem_map.1 hys
       exact Hd.out i l hlt hl y hy))
      have hkk:(k:Int)+1 - 1=(k:Int):=by omega
      cases hnb:zhf d L ds k i
      ·have hnl:=za (hnear.out.trans hnb)
       have Hnb:=za hnb
       clear hnb hrw hlst
       have hst2:=za (show zaX d L goal N (k+1) (i+1) ds∧ds.count (-1)+(if mb=true then 1 else 0)≤c0∧(mb=false→∀ x,x<i+1→¬ Mn d L goal (k+1) x) from
        ⟨hst.out.1.keep Hd.out hv.out hv0 Hnb.out,hst.out.2.1,fun hm x hx=>by
         by_cases e:x=i
         ·subst e
          intro hM
          rw [(hst.out.1.near Hd.out hv.out hv0).2 hM] at Hnb
          exact absurd Hnb.out (by decide)
         ·exact hst.out.2.2 hm x (by omega)⟩)
       go_wp2_with (go_at_call 244;with_reducible refine HC.out.mono ?_;rw [hnl.out];rintro e w4 ⟨rfl,rfl⟩)
       go_roundw
       case rel=>exact⟨i+1,ds,mb,rfl,by go_num,by omega,hst2,zhJ,hfr⟩
       case measure=>simp [intOf];omega
      ·have hnl:=za (hnear.out.trans hnb)
       have Hnb:=za hnb
       clear hnb hrw hlst
       have hst2:=za (show zaX d L goal N (k+1) (i+1) (ds.set i ((k+1:Nat):Int))∧(ds.set i ((k+1:Nat):Int)).count (-1)+(if true=true then 1 else 0)≤c0∧(true=false→∀ x,x<i+1→¬ Mn d L goal (k+1) x) from
        ⟨hst.out.1.put Hd.out hv.out hv0 Hnb.out,by
         have h1:=set_count (u:=((k+1:Nat):Int)) hv.out rfl (by omega)
         have h2:=hst.out.2.1
         simp only [if_true]
         cases mb
         ·simp at h2;omega
         ·simp at h2;omega,fun h=>by cases h⟩)
       have f0:=zhJ.frozenAt i
       have hss:=zhJ.stored i (.int .i64 ((k:Int)+1))
       have hset:(ints ds).set i (.int .i64 ((k:Int)+1))=ints (ds.set i ((k+1:Nat):Int)):=by
        rw [ints,ints,List.map_set];rfl
       rw [hset] at hss
       clear hset
       go_wp2_with (go_at_call 244;with_reducible refine HC.out.mono ?_;rw [hnl.out];rintro e w4 ⟨rfl,rfl⟩)
       go_roundw
       case rel=>exact⟨i+1,_,true,rfl,by go_num,by omega,hst2,hss.1,hfr.cell (p:=⟨gd,i,none⟩) rfl _⟩
       case measure=>simp [intOf];omega
     ·have hst2:=za (show zaX d L goal N (k+1) (i+1) ds∧ds.count (-1)+(if mb=true then 1 else 0)≤c0∧(mb=false→∀ x,x<i+1→¬ Mn d L goal (k+1) x) from
       ⟨hst.out.1.skip hv.out (by omega),hst.out.2.1,fun hm x hx=>by
        by_cases e:x=i
        ·subst e
         exact hst.out.1.known hv.out (by omega)
        ·exact hst.out.2.2 hm x (by omega)⟩)
      go_wp2
      go_roundw
      case rel=>exact⟨i+1,ds,mb,rfl,by go_num,by omega,hst2,zhJ,hfr⟩
      case measure=>simp [intOf];omega
    ·obtain rfl:N=i:=by omega
     have zhM:=za (show if mb=true then zaX d L goal N (k+1+1) 0 ds∧k+1+ds.count (-1)≤N else DsFin d L goal N ds by
      obtain⟨h1,h2,h3⟩:=hst.out
      cases mb
      ·rw [if_neg (by decide)]
       exact h1.fin Hd.out (h3 rfl)
      ·rw [if_pos rfl]
       refine⟨h1.round_,?_⟩
       simp at h2
       omega)
     have hk1:k+1≤N+1:=by omega
     go_wp2
     go_roundw
     case rel=>exact⟨k+1,ds,mb,rfl,by go_num,hk1,zhM,zhJ,hfr⟩
     case measure=>simp [intOf];omega
theorem lbs_snoc (v:List Nat) (l:Nat):lbs (v++[l])=lbs v++[((97+l:Nat):Int)]:=by simp [lbs]
theorem zfd (a b:List Int):strOfNums (a++b)=strOfNums a++strOfNums b:=by
 apply ByteArray.ext
 simp [strOfNums,ByteArray.data_append]
def wstr (v:List Nat):ByteArray:=strOfNums (lbs v)
theorem wstr_snoc (v:List Nat) (l:Nat):wstr (v++[l])=wstr v++strOfNums [((97+l:Nat):Int)]:=by rw [wstr,lbs_snoc,zfd];rfl
theorem zfZ (v:List Nat):(wstr v).size=v.length:=by rw [wstr,strOfNums_size];simp [lbs]
theorem zdC {l:Nat} {w:World}(h1:l<6) :
  Calls Tryz.prog 111 #[.int .i64 l] w fun e w'=>e=.returned (.string (strOfNums [((97+l:Nat):Int)]))∧Ext w w':=by
 have hc:=zed w
 have hw:IntKind.u8.wrap (97+(l:Int))=((97+l:Nat):Int):=by rw [IntKind.wrap_u8];omega
 go_enter Tryz.func111,Tryz.ntmps111
 go_wp2
 go_ret
 exact⟨by first|rfl|(rw [hw];rfl)|simp [hw],(Ext.refl _).alloc _⟩
def RetClo (w:World) (d:Nat→Nat→List Nat) (ds:List Int) (at_:List Nat) (l:Nat) (r:Int) (N:Nat) (e:Ending) (w':World):Prop:=
 ∃ nx:List Nat,zbq w nx e w'∧Hid (nx.length≤N∧∀ x,x∈nx↔∃ n∈at_,x∈d n l∧ds[x]?=some r)
theorem zhx {lo hi lo' hi' lo2 hi2 N m c c' c2:Nat} {A B C:Option Addr} {d:Nat→Nat→List Nat} {L:List Nat} {ds:List Int} {at_:List Nat} {k l:Nat} {r:Int} {w:World}(h:Lst P3 w lo hi A (mvs d L N))(h':Lst IntP w lo' hi' B ds)(h2:Lst zbf w lo2 hi2 C at_)(hm:at_.length=m)(hat:∀ n∈at_,n<N)(hl:L[k]?=some l)(hds:ds.length=N)(hN:N≤1048576)(hd:∀ x l,x<N→l∈L→∀ y∈d x l,y<N) :
  Calls Tryz.prog 212 #[.slice A N c,.slice B N c',.slice C m c2,.int .i64 k,.int .i64 r] w (RetClo w d ds at_ l r N):=by
 have HM:=za (fun W (hW:Ext w W)=>h.ext P3.ok hW)
 have HD:=za (fun W (hW:Ext w W)=>h'.ext IntP.ok hW)
 have HA:=za (fun W (hW:Ext w W)=>h2.ext zbf.ok hW)
 have Hd:=za (fun x hx=>hd x l hx (List.mem_of_getElem? hl))
 have Hat:=za hat
 have Hl:=za hl
 have Hm:=za hm
 have Hds:=za hds
 have hml:=h2.len
 rw [hm] at hml
 have hkL:k<L.length:=(List.getElem?_eq_some_iff.1 hl).1
 have hLl:∀ n,n<N→(L.map fun l=>d n l)[k]?=some (d n l):=fun n _=>by rw [List.getElem?_map,hl];rfl
 have HLl:=za hLl
 clear h h' h2 hd hat hl hm hds hLl
 go_enter Tryz.func212,Tryz.ntmps212
 go_upto_region 2 with fail
 have hx0:=(Ext.refl w).alloc (.cells #[] 3)
 have hown0:=World.ownsRow_lit (base:=w.heap.size) (e:=3) (size:=1) w #[] 0 (Nat.le_refl _) (by unfold maxLen;omega) rfl
 generalize hg1:(some ⟨w.heap.size,0,none⟩:Option Addr)=A1 at *
 clear hg1
 generalize w.alloc (.cells #[] 3)=w0 at *
 go_wp2_with fail
 go_loopw [11,12,13,14] (fun v i _ _ wr=>∃ (a:Nat) (nx:List Nat),i=.int .i64 a∧a≤m∧Hid (nx.Nodup∧∀ x,x∈nx↔∃ n∈at_.take a,x∈d n l∧ds[x]?=some r)∧wr.ownsRow w.heap.size 3 1 v nx.length (zaK nx)∧Ext w wr) (fun _ i _ _ _=>m - (intOf i).toNat)
 case atStart=>exact⟨0,[],rfl,Nat.zero_le _,(show Hid _ from ⟨by simp,by simp⟩),by simpa [zaK] using hown0,hx0⟩
 case round =>
  clear hown0 hx0
  obtain⟨a,nx,rfl,ha,hnx,zhJ,hx⟩:=hrel
  obtain⟨A0,c0,rfl⟩:=zf zhJ
  by_cases hlt:a<m
  ·obtain⟨ba,oa,n,rfl,_,_,hn,hca⟩:=(HA.out w (Ext.refl _)).num (show a<at_.length by rw [Hm.out];exact hlt)
   have hnN:=Hat.out n (List.mem_of_getElem? hn.out)
   obtain⟨bm,om,v,row,rfl,_,_,hrow,hcm,Ar,cr,rfl,hrw⟩:=(HM.out w (Ext.refl _)).get (show n<(mvs d L N).length by rw [zcj];exact hnN)
   have hrw0:=za (show row=L.map fun l=>d n l by
    have h1:=hrow.out
    rw [mvs,List.getElem?_map,List.getElem?_range hnN] at h1
    exact (Option.some.inj h1).symm)
   have hkr:k<row.length:=by rw [hrw0.out,List.length_map];exact hkL
   obtain⟨br,or_,v,ys,rfl,_,_,hys,hcr,Ay,cy,rfl,hyl⟩:=hrw.get hkr
   have hys0:=za (show ys=d n l by
    have h1:=hys.out
    rw [hrw0.out,HLl.out n hnN] at h1
    exact (Option.some.inj h1).symm)
   have hlys:=hyl.len
   have HY:=za (fun W (hW:Ext w W)=>hyl.ext zbf.ok hW)
   have hysN:=za (show ∀ y∈ys,y<N by rw [hys0.out];exact Hd.out n hnN)
   have hsn:=za (show at_.take (a+1)=at_.take a++[n] by rw [List.take_add_one,hn.out];rfl)
   have hca':=hx.cell_some hca
   have hcm':=hx.cell_some hcm
   have hcr':=hx.cell_some hcr
   clear hyl hca hcm hcr hrw
   go_wp2_with fail
   clear hca' hcm' hcr'
   go_loopw [11,14] (fun v i wr2=>∃ (j:Nat) (nx:List Nat),i=.int .i64 j∧j≤ys.length∧Hid (nx.Nodup∧∀ x,x∈nx↔(∃ n∈at_.take a,x∈d n l∧ds[x]?=some r)∨(x∈ys.take j∧ds[x]?=some r))∧wr2.ownsRow w.heap.size 3 1 v nx.length (zaK nx)∧Ext w wr2) (fun _ i _=>ys.length - (intOf i).toNat)
   case atStart=>exact⟨0,nx,rfl,Nat.zero_le _,(show Hid _ from ⟨hnx.out.1,fun x=>by rw [hnx.out.2 x];simp⟩),zhJ,hx⟩
   case round =>
    clear zhJ hx hnx
    obtain⟨j,nx,rfl,hj,hnx,zhJ,hx⟩:=hrel
    obtain⟨A0,c0,rfl⟩:=zf zhJ
    by_cases hlj:j<ys.length
    ·obtain⟨by_,oy,y,rfl,_,_,hy,hcy⟩:=(HY.out _ hx).num hlj
     have hyN:=hysN.out y (List.mem_of_getElem? hy.out)
     obtain⟨bd,od,v,rfl,_,_,hv,hcd⟩:=(HD.out _ hx).int (show y<ds.length by rw [Hds.out];exact hyN)
     have htk:=za (show ys.take (j+1)=ys.take j++[y] by rw [List.take_add_one,hy.out];rfl)
     by_cases hvr:v=r
     ·have Hvr:=za (show ds[y]?=some r by rw [hv.out,hvr])
      subst hvr
      have hlst:=Lst.own_nats zhJ
      have HI:=za (spec_l4In (c:=c0) (x:=y) hlst rfl)
      have hnxl:nx.length≤N:=zdL hnx.out.1 fun x hx=>by
       rcases (hnx.out.2 x).1 hx with ⟨_,_,_,h1⟩|⟨_,h1⟩<;>· have:=(List.getElem?_eq_some_iff.1 h1).1;rw [Hds.out] at this;exact this
      by_cases hin:y∈nx
      ·have hdi:=za (show decide (y∈nx)=true by simp [hin])
       have hst:=za (show nx.Nodup∧∀ x,x∈nx↔(∃ n∈at_.take a,x∈d n l∧ds[x]?=some v)∨(x∈ys.take (j+1)∧ds[x]?=some v) from ⟨hnx.out.1,fun x=>by
        rw [hnx.out.2 x,htk.out,List.mem_append,List.mem_singleton]
        constructor
        ·rintro (h|⟨h,h'⟩)
         ·exact Or.inl h
         ·exact Or.inr ⟨Or.inl h,h'⟩
        ·rintro (h|⟨h|h,h'⟩)
         ·exact Or.inl h
         ·exact Or.inr ⟨h,h'⟩
         ·subst h;exact (hnx.out.2 x).1 hin⟩)
       clear hlst hin
       go_wp2_with (go_at_call 245;with_reducible refine HI.out.mono ?_;rw [hdi.out];rintro e w4 ⟨rfl,rfl⟩)
       go_roundw
       case rel=>exact⟨j+1,nx,by go_num,by omega,hst,zhJ,hx⟩
       case measure=>simp [intOf];omega
      ·have hdi:=za (show decide (y∈nx)=false by simp [hin])
       have hst:=za (show (nx++[y]).Nodup∧∀ x,x∈nx++[y]↔(∃ n∈at_.take a,x∈d n l∧ds[x]?=some v)∨(x∈ys.take (j+1)∧ds[x]?=some v) from ⟨List.nodup_append.2 ⟨hnx.out.1,by simp,fun x hx z hz e=>by simp at hz;subst hz;subst e;exact hin hx⟩,fun x=>by
        rw [List.mem_append,List.mem_singleton,hnx.out.2 x,htk.out,List.mem_append,List.mem_singleton]
        constructor
        ·rintro ((h|⟨h,h'⟩)|h)
         ·exact Or.inl h
         ·exact Or.inr ⟨Or.inl h,h'⟩
         ·subst h;exact Or.inr ⟨Or.inr rfl,Hvr.out⟩
        ·rintro (h|⟨h|h,h'⟩)
         ·exact Or.inl (Or.inl h)
         ·exact Or.inl (Or.inr ⟨h,h'⟩)
         ·exact Or.inr h⟩)
       clear hlst hin
       go_wp2_with (first
        |(go_at_call 245;with_reducible refine HI.out.mono ?_;rw [hdi.out];rintro e w4 ⟨rfl,rfl⟩)
        |(at_builtin;refine zI w wr rfl _ _ _ rfl 3 _ 1 8 Tryz.underlying74 zac rfl (by decide) (.slice A0 nx.length c0) _ _ _ _ rfl rfl hx zhJ rfl (zbv _) (by unfold maxLen;omega) (by omega) ?_;intro v' w5 hext5 zhV hg5 hat5))
       go_roundw
       case rel=>exact⟨j+1,nx++[y],by go_num,by omega,hst,by rw [List.length_append,zcQ];exact zhV,hext5⟩
       case measure=>simp [intOf];omega
     ·have hne:(v==r)=false:=by simp;omega
      have hst:=za (show nx.Nodup∧∀ x,x∈nx↔(∃ n∈at_.take a,x∈d n l∧ds[x]?=some r)∨(x∈ys.take (j+1)∧ds[x]?=some r) from ⟨hnx.out.1,fun x=>by
       rw [hnx.out.2 x,htk.out,List.mem_append,List.mem_singleton]
       constructor
       ·rintro (h|⟨h,h'⟩)
        ·exact Or.inl h
        ·exact Or.inr ⟨Or.inl h,h'⟩
       ·rintro (h|⟨h|h,h'⟩)
        ·exact Or.inl h
        ·exact Or.inr ⟨h,h'⟩
        ·subst h
         rw [hv.out] at h'
         exact absurd (Option.some.inj h') hvr⟩)
      clear hvr
      go_wp2_with fail
      go_roundw
      case rel=>exact⟨j+1,nx,by go_num,by omega,hst,zhJ,hx⟩
      case measure=>simp [intOf];omega
    ·obtain rfl:j=ys.length:=by omega
     have hst:=za (show nx.Nodup∧∀ x,x∈nx↔∃ n∈at_.take (a+1),x∈d n l∧ds[x]?=some r from ⟨hnx.out.1,fun x=>by
      rw [hnx.out.2 x,List.take_length,hys0.out,hsn.out]
      constructor
      ·rintro (⟨z,h1,h2⟩|⟨h1,h2⟩)
       ·exact⟨z,by simp [h1],h2⟩
       ·exact⟨n,by simp,h1,h2⟩
      ·rintro ⟨z,h1,h2⟩
       rcases List.mem_append.1 h1 with h1|h1
       ·exact Or.inl ⟨z,h1,h2⟩
       ·rw [List.mem_singleton.1 h1] at h2;exact Or.inr h2⟩)
     go_wp2_with fail
     go_roundw
     case rel=>exact⟨a+1,nx,by go_num,by omega,hst,zhJ,hx⟩
     case measure=>simp [intOf];omega
  ·obtain rfl:a=m:=by omega
   have hres:=za (show RetClo w d ds at_ l r N (.returned (.slice A0 nx.length c0)) wr from by
    refine⟨nx,⟨A0,c0,rfl,zhJ,hx⟩,(show Hid _ from ⟨zdL hnx.out.1 fun x hx=>?_,fun x=>?_⟩)⟩
    ·obtain⟨_,_,_,h1⟩:=(hnx.out.2 x).1 hx
     have:=(List.getElem?_eq_some_iff.1 h1).1;rw [Hds.out] at this;exact this
    ·rw [hnx.out.2 x,List.take_of_length_le (by rw [Hm.out];exact Nat.le_refl _)])
   clear zhJ
   go_wp2
   go_ret
   exact hres.out
def wl (s:ByteArray):List Nat:=s.data.toList.map fun b=>b.toNat - 97
theorem zeS (s:ByteArray):(wl s).length=s.size:=by simp [wl]
theorem zeR {s:ByteArray} {k:Nat}(hk:k<s.size):(wl s)[k]?=some (s[k].toNat - 97):=by
 unfold wl
 rw [List.getElem?_map,zaB s k hk];rfl
theorem zbo {s:ByteArray}(h:zaO s=true) {k:Nat}(hk:k<s.size):97≤s[k].toNat∧s[k].toNat≤102:=by
 unfold zaO at h
 simp only [Bool.and_eq_true,List.all_eq_true] at h
 have:=h.2 s[k] (List.mem_of_getElem? (zaB s k hk))
 simp only [zbC,decide_eq_true_eq] at this
 omega
theorem zaT {s:ByteArray}(h:zaO s=true):s.size≤50000:=by
 unfold zaO at h
 simp only [Bool.and_eq_true,decide_eq_true_eq] at h
 exact h.1
theorem wl_lt {s:ByteArray}(h:zaO s=true):∀ l∈wl s,l<6:=by
 intro l hl
 obtain⟨k,hk⟩:=List.getElem?_of_mem hl
 have hkl:=(List.getElem?_eq_some_iff.1 hk).1
 rw [zeS] at hkl
 rw [zeR hkl] at hk
 have:=zbo h hkl
 have:=Option.some.inj hk
 omega
def alB (ls:List Nat):Nat:=ls.foldl (fun u l=>u|||2 ^ l) 0
theorem alB_snoc (ls:List Nat) (l:Nat):alB (ls++[l])=alB ls|||2 ^ l:=by simp [alB]
theorem alB_bit (ls:List Nat) (k:Nat):(alB ls).testBit k=true↔k∈ls:=by
 have key:∀ (ls:List Nat) (u:Nat),(ls.foldl (fun u l=>u|||2 ^ l) u).testBit k=true↔u.testBit k=true∨k∈ls:=by
  intro ls
  induction ls with
  |nil=>intro u;simp
  |cons l r ih =>
   intro u
   rw [List.foldl_cons,ih,Nat.testBit_or,Nat.testBit_two_pow,Bool.or_eq_true,decide_eq_true_eq,List.mem_cons]
   constructor
   ·rintro ((h|h)|h)
    ·exact Or.inl h
    ·exact Or.inr (Or.inl h.symm)
    ·exact Or.inr (Or.inr h)
   ·rintro (h|h|h)
    ·exact Or.inl (Or.inl h)
    ·exact Or.inl (Or.inr h.symm)
    ·exact Or.inr h
 have:=key ls 0
 simpa [alB] using this
theorem alB_lt {ls:List Nat}(h:∀ l∈ls,l<6):alB ls<64:=Nat.lt_pow_two_of_testBit (n:=6) _ fun k hk=>by
 rw [Bool.eq_false_iff]
 intro hb
 have:=h k ((alB_bit ls k).1 hb)
 omega
def inB (s:ByteArray) (a:Nat):Bool:=decide (s.size≤50000)&&zeX s a
theorem zbi {s:ByteArray} {a:Nat}(h:inB s a=true):zaO s=true:=by
 unfold inB at h
 simp only [Bool.and_eq_true,decide_eq_true_eq] at h
 unfold zaO
 simp only [Bool.and_eq_true,decide_eq_true_eq]
 refine⟨h.1,?_⟩
 rw [List.all_eq_true]
 intro b hb
 have h2:=h.2
 unfold zeX at h2
 rw [List.all_eq_true] at h2
 have h3:=h2 b hb
 unfold hasB ltr at h3
 simp only [Bool.and_eq_true,decide_eq_true_eq] at h3
 unfold zbC
 rw [decide_eq_true_eq]
 have h4:=h3.1
 split at h4<;>omega
theorem inB_iff {s:ByteArray} {a:Nat}:inB s a=true↔zaO s=true∧alB (wl s)&&&a=alB (wl s):=by
 constructor
 ·intro h
  have hw:=zbi h
  refine⟨hw,Nat.eq_of_testBit_eq fun k=>?_⟩
  rw [Nat.testBit_and]
  cases hk:(alB (wl s)).testBit k
  ·rfl
  ·rw [Bool.true_and]
   have hm:=(alB_bit _ k).1 hk
   obtain⟨i,hi⟩:=List.getElem?_of_mem hm
   have hil:=(List.getElem?_eq_some_iff.1 hi).1
   rw [zeS] at hil
   rw [zeR hil] at hi
   have hb:=zbo hw hil
   have e:=Option.some.inj hi
   unfold inB zeX at h
   simp only [Bool.and_eq_true,List.all_eq_true] at h
   have:=h.2 s[i] (List.mem_of_getElem? (zaB s i hil))
   unfold hasB ltr at this
   rw [if_neg (by omega)] at this
   simp only [Bool.and_eq_true] at this
   rw [← e,← this.2]
   congr 1
   omega
 ·rintro ⟨hw,h⟩
  unfold inB
  simp only [Bool.and_eq_true,decide_eq_true_eq]
  refine⟨zaT hw,?_⟩
  unfold zeX
  rw [List.all_eq_true]
  intro b hb
  obtain⟨i,hi⟩:=List.getElem?_of_mem hb
  have hil:i<s.size:=by have:=(List.getElem?_eq_some_iff.1 hi).1;simpa using this
  rw [zaB s i hil] at hi
  obtain rfl:=Option.some.inj hi
  have hb2:=zbo hw hil
  unfold hasB ltr
  rw [if_neg (by omega)]
  have hm:(alB (wl s)).testBit (s[i].toNat - 97)=true:=(alB_bit _ _).2 (List.mem_of_getElem? (zeR hil))
  rw [← h,Nat.testBit_and,Bool.and_eq_true] at hm
  simp only [Bool.and_eq_true,decide_eq_true_eq]
  refine⟨by omega,?_⟩
  rw [show ((s[i].toNat:Int) - 97).toNat=s[i].toNat - 97 by omega]
  exact hm.2
theorem zcT {s:ByteArray} {w:World}(hs:s.size≤9223372036854775807) :
  Calls Tryz.prog 170 #[.string s] w fun e w'=>e=.returned (.tuple #[.int .i64 (if zaO s=true then alB (wl s) else 0:Nat),.bool (zaO s)])∧w=w':=by
 cases hw:zaO s
 ·have Hw:=za hw
  clear hw
  go_enter Tryz.func170,Tryz.ntmps170
  go_wp2_with (go_at_call 29;refine (zbu s _ hs).mono ?_;rw [Hw.out];rintro e w' ⟨rfl,rfl⟩)
  go_ret2
  exact⟨rfl,rfl⟩
 ·have hsz:=zaT hw
  have Hb:=za (fun k hk=>zbo hw (k:=k) hk)
  have Hl:=za (wl_lt hw)
  have Hw:=za hw
  clear hw
  go_enter Tryz.func170,Tryz.ntmps170
  go_wp2_with (go_at_call 29;refine (zbu s _ hs).mono ?_;rw [Hw.out];rintro e w' ⟨rfl,rfl⟩)
  go_loop [4,5] (fun v i=>∃ k u:Nat,k≤s.size∧i=.int .i64 k∧v=.int .i64 u∧u<64∧Hid (u=alB ((wl s).take k))) (fun _ i=>s.size - (intOf i).toNat)
  case atStart=>exact⟨0,0,Nat.zero_le _,rfl,rfl,by omega,rfl⟩
  case round =>
   obtain⟨k,u,hk,rfl,rfl,hu,hua⟩:=hrel
   by_cases hlt:k<s.size
   ·have hbb:=Hb.out k hlt
    obtain⟨l,hl⟩:∃ l:Nat,Hid ((s[k].toNat:Int) - 97=l):=⟨s[k].toNat - 97,by unfold Hid;omega⟩
    have hl6:l<6:=by have:=hl.out;omega
    have hst:=za (show alB ((wl s).take (k+1))=u|||2 ^ l by
     rw [List.take_add_one,zeR hlt,Option.toList_some,alB_snoc,← hua.out]
     congr 2
     have:=hl.out;omega)
    have hor:=za (show bits .or .i64 (u:Nat) ((2:Int) ^ l)=((u|||2 ^ l:Nat):Int) by
     have:=zcr (a:=u) (by unfold Sm;omega) (Sm.bit (n:=l) (by omega))
     rw [show (((2:Nat) ^ l:Nat):Int)=(2:Int) ^ l by simp] at this
     exact this)
    have hlt2:u|||2 ^ l<64:=Nat.or_lt_two_pow (n:=6) hu (Nat.pow_lt_pow_right (by omega) hl6)
    have ho:=hor.out
    clear hbb
    go_wp2_with (first
     |(go_at_call 62;refine (zaI s k hlt _).mono ?_;rw [hl.out];rintro e w' ⟨rfl,rfl⟩)
     |(go_at_call 203;refine (zeE l (by omega) _).mono ?_;rintro e w' ⟨rfl,rfl⟩))
    go_round
    case rel=>exact⟨k+1,u|||2 ^ l,by omega,by go_num,by first|rfl|rw [hor.out],hlt2,hst.symm⟩
    case measure=>simp [intOf];omega
   ·obtain rfl:k=s.size:=by omega
    have zhM:=za (show u=alB (wl s) by rw [hua.out,List.take_of_length_le (by rw [zeS];exact Nat.le_refl _)])
    go_wp2
    go_ret2
    exact⟨by rw [zhM.out];rfl,rfl⟩
theorem zQ {s:ByteArray} {a:Nat} {w:World}(hs:s.size≤9223372036854775807)(ha:a≤63) :
  Calls Tryz.prog 140 #[.string s,.int .i64 a] w fun e w'=>e=.returned (.bool (inB s a))∧w=w':=by
 have hal:=za (show (decide ((0:Int)≤a∧(a:Int)≤63))=true by simp;omega)
 cases hw:zaO s
 ·have hr:=za (show inB s a=false by
   rw [Bool.eq_false_iff]
   intro h
   rw [zbi h] at hw;cases hw)
  have Hw:=za hw
  clear hw
  go_enter Tryz.func140,Tryz.ntmps140
  go_wp2_with (go_at_call 170;refine (zcT hs).mono ?_;rw [Hw.out];rintro e w' ⟨rfl,rfl⟩)
  go_ret
  exact⟨zm (by rw [hr.out]),rfl⟩
 ·obtain⟨u,hu⟩:∃ u,Hid (alB (wl s)=u):=⟨_,rfl⟩
  have hu64:u<64:=by rw [← hu.out];exact alB_lt (wl_lt hw)
  have hbi:=za (zdf (a:=u) (b:=a) (by unfold Sm;omega) (by unfold Sm;omega))
  have hb:=hbi.out
  have hr:=za (show inB s a=(((u&&&a:Nat):Int)==(u:Int)) by
   rw [Bool.eq_iff_iff,inB_iff,hu.out,beq_iff_eq]
   constructor
   ·rintro ⟨_,h⟩;rw [h]
   ·intro h;exact⟨hw,by omega⟩)
  have Hw:=za hw
  clear hw
  go_enter Tryz.func140,Tryz.ntmps140
  go_wp2_with (first
   |(go_at_call 170;refine (zcT hs).mono ?_;rw [Hw.out,if_pos rfl,hu.out];rintro e w' ⟨rfl,rfl⟩)
   |(go_at_call 59;refine (zC _ _).mono ?_;rw [hal.out];rintro e w' ⟨rfl,rfl⟩))
  go_ret
  exact⟨zm (by rw [hr.out]),rfl⟩
def bnum (bs:List UInt8):List Int:=bs.map fun b=>(b.toNat:Int)
def bcl (bs:List UInt8):List Value:=(bnum bs).map (Value.int .u8)
theorem bcl_length (bs:List UInt8):(bcl bs).length=bs.length:=by simp [bcl,bnum]
def zgf (a:Nat) (bs:List UInt8):List UInt8:=bs.filter fun b=>hasB a (ltr b.toNat)
def zbN (s:ByteArray) (a:Nat):ByteArray:=strOfNums (bnum (zgf a s.data.toList))
theorem keepL_take {s:ByteArray} {a k:Nat}(hk:k<s.size):zgf a (s.data.toList.take (k+1))=zgf a (s.data.toList.take k)++if hasB a (ltr s[k].toNat)=true then [s[k]] else []:=by
 rw [List.take_add_one,zaB s k hk,Option.toList_some]
 unfold zgf
 rw [List.filter_append]
 congr 1
 cases h:hasB a (ltr s[k].toNat)<;>simp [h]
theorem keepL_len (s:ByteArray) (a k:Nat):(zgf a (s.data.toList.take k)).length≤s.size:=by
 refine Nat.le_trans (List.length_filter_le _ _) ?_
 rw [List.length_take]
 have:s.data.toList.length=s.size:=by simp
 omega
theorem conv_own {W:World} {base n:Nat} {A:Option Addr} {cap:Nat} {bs:List UInt8}(h:W.ownsRow base 5 1 (.slice A n cap) n (bcl bs)) :
  (convert 22 9 (.slice A n cap)).run Tryz.prog W=.ok (.string (strOfNums (bnum bs))) W:=by
 have hl:bs.length=n:=by have:=zfG h;rw [bcl_length] at this;omega
 rcases h.2 with ⟨h1,h2⟩|⟨g,cap',cur,h1,_⟩
 ·injection h1 with h1 h3 h4
  subst h1;subst h3;subst h4
  obtain rfl:bs=[]:=List.eq_nil_of_length_eq_zero hl
  exact run_convert_bytes_nil (P:=Tryz.prog) W 22 5 u8_row u8_und _ _ _ str_und
 ·injection h1 with h1
  subst h1
  refine run_convert_bytes_arg (P:=Tryz.prog) W 22 5 u8_row u8_und g 0 n cap (bnum bs) (by simp [bnum,hl]) (fun i hi=>?_) _ str_und
  rw [Nat.zero_add,h.cellAt i (by omega)]
  unfold bcl
  rw [List.getElem?_map]
  have hi2:i<(bnum bs).length:=by simp [bnum];omega
  rw [List.getElem?_eq_getElem hi2]
  simp [List.getD,List.getElem?_eq_getElem hi2]
theorem own_u8_lit (w:World):(w.alloc (.cells #[] 5)).ownsRow w.heap.size 5 1 (.slice (some ⟨w.heap.size,0,none⟩) 0 0) 0 (bcl []):=World.ownsRow_lit w #[] 0 (Nat.le_refl _) (by unfold maxLen;omega) rfl
theorem zbs {s:ByteArray} {a:Nat} {w:World}(hw:zaO s=true)(ha:a≤63) :
  Calls Tryz.prog 142 #[.string s,.int .i64 a] w fun e w'=>e=.returned (.string (zbN s a))∧Ext w w':=by
 have hal:=za (show (decide ((0:Int)≤a∧(a:Int)≤63))=true by simp;omega)
 have hsz:=zaT hw
 have Hb:=za (fun k hk=>zbo hw (k:=k) hk)
 have Hw:=za hw
 clear hw
 go_enter Tryz.func142,Tryz.ntmps142
 go_upto_region 3 with (first
  |(go_at_call 29;refine (zbu s _ (by omega)).mono ?_;rw [Hw.out];rintro e w' ⟨rfl,rfl⟩)
  |(go_at_call 59;refine (zC _ _).mono ?_;rw [hal.out];rintro e w' ⟨rfl,rfl⟩))
 go_upto_region 4 with fail
 have hown0:=own_u8_lit w
 have hx0:=(Ext.refl w).alloc (.cells #[] 5)
 generalize hA0:(some ⟨w.heap.size,0,none⟩:Option Addr)=A0 at *
 clear hA0
 generalize w.alloc (.cells #[] 5)=w0 at *
 go_wp2_with fail
 go_loopw [5,6] (fun v i wr=>∃ (k:Nat) (bs:List UInt8),k≤s.size∧i=.int .i64 k∧wr.ownsRow w.heap.size 5 1 v bs.length (bcl bs)∧Hid (bs=zgf a (s.data.toList.take k))∧bs.length≤50000∧Ext w wr) (fun _ i _=>s.size - (intOf i).toNat)
 case atStart=>exact⟨0,[],Nat.zero_le _,rfl,hown0,rfl,by simp,hx0⟩
 case round =>
  clear hown0 hx0
  obtain⟨k,bs,hk,rfl,zhJ,hbs,hbl,hx⟩:=hrel
  by_cases hlt:k<s.size
  ·have hbb:=Hb.out k hlt
   obtain⟨l,hl⟩:∃ l:Nat,Hid ((s[k].toNat:Int) - 97=l):=⟨s[k].toNat - 97,by unfold Hid;omega⟩
   have hltr:=za (show hasB a (ltr s[k].toNat)=a.testBit l by
    unfold hasB ltr
    have:=hl.out
    rw [if_neg (by omega),this]
    simp)
   have hst:=za (keepL_take (a:=a) hlt)
   have hl2:=keepL_len s a (k+1)
   have hasm:Sm a:=by unfold Sm;omega
   have hgetB:=za (show s.data.toList[k]?=some s[k] from zaB s k hlt)
   cases hb:a.testBit l
   ·have Hbt:=za hb
    have hst2:=za (show bs=zgf a (s.data.toList.take (k+1)) by rw [hst.out,hltr.out,Hbt.out,hbs.out];simp)
    clear hb
    go_wp2_with (first
     |(go_at_call 62;refine (zaI s k hlt _).mono ?_;rw [hl.out];rintro e w' ⟨rfl,rfl⟩)
     |(go_at_call 112;refine (zaa a l hasm _ (by have:=hl.out;omega)).mono ?_;rw [Hbt.out];rintro e w' ⟨rfl,rfl⟩))
    go_roundw
    case rel=>exact⟨k+1,bs,by omega,by go_num,zhJ,hst2,hbl,hx⟩
    case measure=>simp [intOf];omega
   ·have Hbt:=za hb
    have hst2:=za (show bs++[s[k]]=zgf a (s.data.toList.take (k+1)) by rw [hst.out,hltr.out,Hbt.out,hbs.out];simp)
    have hl3:(bs++[s[k]]).length≤50000:=by rw [hst2.out];omega
    rw [List.length_append,List.length_singleton] at hl3
    clear hb
    go_wp2_with (first
     |(go_at_call 62;refine (zaI s k hlt _).mono ?_;rw [hl.out];rintro e w' ⟨rfl,rfl⟩)
     |(go_at_call 112;refine (zaa a l hasm _ (by have:=hl.out;omega)).mono ?_;rw [Hbt.out];rintro e w' ⟨rfl,rfl⟩)
     |(at_builtin;refine zI w wr rfl _ _ _ rfl 5 _ 1 1 Tryz.underlying22 info_u8 rfl (by decide) u5 _ _ _ _ rfl rfl hx zhJ rfl (cells_u8 _) (by unfold maxLen;omega) (by omega) ?_;intro v' w5 hext5 zhV hg5 hat5))
    go_roundw
    case rel=>exact⟨k+1,bs++[s[k]],by omega,by go_num,by rw [List.length_append];simpa [bcl,bnum] using zhV,hst2,by rw [List.length_append];exact hl3,hext5⟩
    case measure=>simp [intOf];omega
  ·obtain rfl:k=s.size:=by omega
   have zhM:=za (show strOfNums (bnum bs)=zbN s a by rw [hbs.out,List.take_of_length_le (by simp)];rfl)
   obtain⟨A5,c5,rfl⟩:=zf zhJ
   have hcv:=conv_own zhJ
   clear zhJ
   go_wp2_with (simp only [hcv])
   go_ret
   exact⟨by rw [zhM.out];rfl,hx⟩
def zU (ss:List Sys):Bool:=decide (1≤ss.length)&&(decide (ss.length≤3)&&ss.all zr)
def zaz (ss:List Sys):Nat:=ss.foldl (fun a s=>a|||s.al.toNat) 0
theorem zdX {ss:List Sys} {k:Nat} {s:Sys}(h:ss[k]?=some s):zaz (ss.take (k+1))=zaz (ss.take k)|||s.al.toNat:=by
 rw [List.take_add_one,h]
 simp [zaz]
theorem zai {s:Sys}(h:zr s=true):0≤s.al∧s.al≤63:=by
 simp only [zr,Bool.and_eq_true,decide_eq_true_eq] at h
 exact h.1
def zby (ss:List Sys):Int:=if zU ss then (zaz ss:Int) else -1
theorem zY {lo hi:Nat} {A:Option Addr} {n c:Nat} {ss:List Sys} {w:World}(h:SLAt w lo hi A n ss) :
  Calls Tryz.prog 130 #[.slice A n c] w fun e w'=>e=.returned (.int .i64 (zby ss))∧Ext w w':=by
 have hn:=h.len
 have hL:=za h.1
 by_cases h1:n<1
 ·go_enter Tryz.func130,Tryz.ntmps130
  go_wp2
  go_ret
  exact⟨zan (by have:=hL.out;unfold zby zU;rw [decide_eq_false (by omega)];simp),Ext.refl _⟩
 by_cases h3:n>3
 ·go_enter Tryz.func130,Tryz.ntmps130
  go_wp2
  go_ret
  exact⟨zan (by have:=hL.out;unfold zby zU;rw [decide_eq_false (by omega:¬ ss.length≤3)];simp),Ext.refl _⟩
 go_enter Tryz.func130,Tryz.ntmps130
 go_wp2
 go_loopw [3,4] (fun v i wr=>∃ k:Nat,k≤n∧i=.int .i64 k∧∃ u:Nat,v=.int .i64 u∧u≤63∧Hid (u=zaz (ss.take k))∧Hid ((ss.take k).all zr=true)∧Ext w wr) (fun _ i _=>n - (intOf i).toNat)
 case atStart=>exact⟨0,Nat.zero_le _,rfl,0,rfl,by omega,rfl,rfl,Ext.refl _⟩
 case round =>
  obtain⟨k,hk,rfl,u,rfl,hu,huA,hall,zhL⟩:=hrel
  by_cases hlt:k<n
  ·obtain⟨b,o,s,B,q,d,rfl,hlo,hhi,hs,c0,c1,c2,hsy⟩:=(h.ext zhL).sys hlt
   cases hb:zr s
   ·have Hb:=za hb
    clear hb
    go_wp2_with (go_at_call 94;refine (zS hsy).mono ?_;rw [Hb.out];rintro e w' ⟨rfl,hx⟩)
    go_ret
    exact⟨zan (by unfold zby;rw [if_neg];unfold zU;simp;intro _ _;exact⟨s,List.mem_of_getElem? hs.out,Hb.out⟩),zhL.trans hx⟩
   ·obtain⟨ha0,ha1⟩:=zai hb
    have Hb:=za hb
    clear hb
    have Hu:=za (zdX hs.out)
    have Ho:=za (zcr (a:=u) (b:=s.al.toNat) (by unfold Sm;omega) (by unfold Sm;omega))
    have Hc:=za (show ((s.al.toNat:Nat):Int)=s.al by omega)
    go_wp2_with (go_at_call 94;refine (zS hsy).mono ?_;rw [Hb.out];rintro e w' ⟨rfl,hx⟩;have c0':=hx.cell_some c0)
    go_roundw
    case rel=>exact⟨k+1,by omega,by go_num,u|||s.al.toNat,by have:=Ho.out;rw [Hc.out] at this;rw [← this],by have:=Nat.or_lt_two_pow (n:=6) (x:=u) (y:=s.al.toNat) (by omega) (by omega);omega,by unfold Hid;rw [Hu.out,huA.out],by unfold Hid;rw [List.take_add_one,hs.out,List.all_append,hall.out];simp [Hb.out],zhL.trans hx⟩
    case measure=>simp [intOf];omega
  ·obtain rfl:k=n:=by omega
   go_wp2
   go_ret
   exact⟨zan (by have:=hL.out;have h1:=huA.out;have h2:=hall.out;rw [this,List.take_length] at h1 h2;unfold zby zU;rw [decide_eq_true (by omega),decide_eq_true (by omega),h2,h1];rfl),zhL⟩
def zhl (es:List Edg) (x:Nat) (ls:List Nat):Nat:=ls.foldl (fun m (l:Nat)=>zbS es m (l:Int)) x
theorem runB_snoc (es:List Edg) (x:Nat) (ls:List Nat) (l:Nat):zhl es x (ls++[l])=zbS es (zhl es x ls) (l:Int):=by simp [zhl]
theorem runB_zero (es:List Edg) (ls:List Nat):zhl es 0 ls=0:=by
 induction ls with
 |nil=>rfl
 |cons l r ih=>rw [zhl,List.foldl_cons,stepB_zero];exact ih
theorem runB_end {es:List Edg} {x k:Nat} {ls:List Nat}(h:zhl es x (ls.take k)=0):zhl es x ls=0:=by
 have e:ls=ls.take k++ls.drop k:=(List.take_append_drop k ls).symm
 rw [e,zhl,List.foldl_append]
 show zhl es (zhl es x (ls.take k)) (ls.drop k)=0
 rw [h,runB_zero]
section
variable {lo hi n c:Nat} {A:Option Addr} {s:Sys} {t:ByteArray} {w:World}
theorem runB_lt16 {p:Nat} {es:List Edg}(hf:Few p es)(hp:p≤16) (ls:List Nat):zhl es 1 ls<65536:=by
 rcases zbc ls with rfl|⟨u,l,rfl⟩
 ·simp [zhl]
 ·rw [runB_snoc]
  refine Nat.lt_of_lt_of_le (zhB hf _ _) ?_
  rw [show (65536:Nat)=2 ^ 16 from rfl]
  exact Nat.pow_le_pow_right (by omega) hp
theorem spec_l2Run (h:zah w lo hi A n s)(hv:zr s=true)(ht:zaO t=true) :
  Calls Tryz.prog 204 #[.agg #[.int .i64 s.al,.int .i64 s.st,.slice A n c],.int .i64 1,.string t] w fun e w'=>e=.returned (.int .i64 (zhl s.edges 1 (wl t):Nat))∧Ext w w':=by
 obtain⟨p,hp,hp1,hp2,hf⟩:=zdb hv
 have HS:=za (fun W (hW:Ext w W)=>h.ext hW)
 have hsz:=zaT ht
 have Hb:=za (fun k hk=>zbo ht (k:=k) hk)
 have Hf:=za hf
 have H16:=za (fun ls=>runB_lt16 hf hp2 ls)
 clear h hv ht hf hp
 go_enter Tryz.func204,Tryz.ntmps204
 go_upto_region 1 with fail
 have hw1:Ext w (w.alloc (.cells #[.int .i64 s.al,.int .i64 s.st,.slice A n c] 39)):=(Ext.refl w).alloc _
 have b1:=Blk.new w 39 #[.int .i64 s.al,.int .i64 s.st,.slice A n c]
 generalize w.alloc (.cells #[.int .i64 s.al,.int .i64 s.st,.slice A n c] 39)=w1 at *
 go_wp2_with fail
 go_loopw [1,7] (fun v i wr=>∃ k x:Nat,i=.int .i64 k∧k≤t.size∧v=.int .i64 x∧x<65536∧Hid (x=zhl s.edges 1 ((wl t).take k))∧Ext w1 wr) (fun _ i _=>t.size - (intOf i).toNat)
 case atStart=>exact⟨0,1,rfl,Nat.zero_le _,rfl,by omega,rfl,Ext.refl _⟩
 case round =>
  obtain⟨k,x,rfl,hk,rfl,hx,hxo,hxr⟩:=hrel
  by_cases hlt:k<t.size
  ·by_cases hx0:x=0
   ·subst hx0
    have zhM:=za (show zhl s.edges 1 (wl t)=0 from runB_end hxo.out.symm)
    go_wp2
    go_ret
    exact⟨zan (by rw [zhM.out]),hw1.trans hxr⟩
   ·have hne:((x:Int) != 0)=true:=by simp;try omega
    have hbb:=Hb.out k hlt
    obtain⟨l,hl⟩:∃ l:Nat,Hid ((t[k].toNat:Int) - 97=l):=⟨t[k].toNat - 97,by unfold Hid;omega⟩
    have hst:=za (show zbS s.edges x (l:Int)=zhl s.edges 1 ((wl t).take (k+1)) by
     rw [List.take_add_one,zeR hlt,Option.toList_some,runB_snoc,← hxo.out]
     congr 1
     have:=hl.out;omega)
    have h16:=H16.out ((wl t).take (k+1))
    rw [← hst.out] at h16
    have HC:=za (fun W (hW:Ext w1 W)=>zdU (c:=c) (set:=x) (l:=(l:Int)) (HS.out W (hw1.trans hW)) Hf.out hp2 (by unfold Sm;omega))
    generalize zbS s.edges x (l:Int)=y at *
    have c1:∀ W,Ext wr W→∀ j,W.cell? ⟨w.heap.size,j,none⟩=#[Value.int .i64 s.al,.int .i64 s.st,.slice A n c][j]?:=fun W hW=>(b1.ext (hxr.trans hW)).cell
    have hww:=Ext.refl wr
    clear hbb
    go_upto_region 4 with fail
    refine uR (fun X=>Ext wr X) [5] (zK.of [0,1,2,3,4,5,6]) ?_
    refine uQ ?_
    refine zb fun K hK=>?_;go_simp
    refine (zaI t k hlt _).mono ?_
    rw [hl.out]
    rintro e w' ⟨rfl,rfl⟩
    refine hK.out _ _ hww.drew ?_
    refine pT ?_
    refine zg fun K hK=>?_
    go_simp
    refine (HC.out _ (hxr.trans hww.drew)).mono ?_
    rintro e w5 ⟨rfl,hx5⟩
    refine hK.out _ _ ?_
    refine pT ?_
    refine uQ ?_
    refine zj ?_
    have hx6:=hxr.trans (hww.drew.trans hx5)
    go_wp2_with fail
    go_roundw
    case rel=>exact⟨k+1,y,by go_num,by omega,rfl,h16,hst,hx6⟩
    case measure=>simp [intOf];omega
  ·obtain rfl:k=t.size:=by omega
   have zhM:=za (show x=zhl s.edges 1 (wl t) by rw [hxo.out,List.take_of_length_le (by rw [zeS];exact Nat.le_refl _)])
   go_wp2
   go_ret
   exact⟨zan (by rw [zhM.out]),hw1.trans hxr⟩
def aftB (s:Sys) (t:ByteArray):Nat:=if (zr s&&inB t s.al.toNat)=true then zhl s.edges 1 (wl t) else 0
theorem zeZ (h:zah w lo hi A n s)(ht:t.size≤9223372036854775807) :
  Calls Tryz.prog 171 #[.agg #[.int .i64 s.al,.int .i64 s.st,.slice A n c],.string t] w fun e w'=>e=.returned (.int .i64 (aftB s t:Nat))∧Ext w w':=by
 have HS:=za (fun W (hW:Ext w W)=>h.ext hW)
 have HV:=za (fun W (hW:Ext w W)=>zS (c:=c) (h.ext hW))
 clear h
 have hw1:Ext w (w.alloc (.cells #[.int .i64 s.al,.int .i64 s.st,.slice A n c] 39)):=(Ext.refl w).alloc _
 have b1:=Blk.new w 39 #[.int .i64 s.al,.int .i64 s.st,.slice A n c]
 cases hv:zr s
 ·have Hv:=za hv
  have hr:=za (show aftB s t=0 by unfold aftB;rw [hv];rfl)
  clear hv
  go_enter Tryz.func171,Tryz.ntmps171
  go_upto_region 1 with fail
  generalize w.alloc (.cells #[.int .i64 s.al,.int .i64 s.st,.slice A n c] 39)=w1 at *
  have c1:=b1.cell
  go_wp2_with (go_at_call 94;refine (HV.out _ hw1).mono ?_;rw [Hv.out];rintro e w2 ⟨rfl,hx2⟩)
  go_ret
  exact⟨zan (by rw [hr.out];rfl),hw1.trans hx2⟩
 ·have hal:=zai hv
  obtain⟨al,hae⟩:∃ al:Nat,Hid (s.al=al):=⟨s.al.toNat,by unfold Hid;omega⟩
  have hal6:al≤63:=by have:=hae.out;omega
  have hr:=za (show aftB s t=if inB t al=true then zhl s.edges 1 (wl t) else 0 by unfold aftB;rw [hv,hae.out];simp)
  have Hv:=za hv
  cases hi:inB t al
  ·have Hi:=za hi
   rw [hi] at hr
   clear hv hi
   go_enter Tryz.func171,Tryz.ntmps171
   go_upto_region 1 with fail
   generalize w.alloc (.cells #[.int .i64 s.al,.int .i64 s.st,.slice A n c] 39)=w1 at *
   have c1:=b1.cell
   go_wp2_with (first
    |(go_at_call 94;refine (HV.out _ hw1).mono ?_;rw [Hv.out];rintro e w2 ⟨rfl,hx2⟩;have c2:=((b1.ext hx2).cell 0).trans (show #[Value.int .i64 s.al,.int .i64 s.st,.slice A n c][0]?=some (Value.int .i64 (al:Nat)) by rw [hae.out];rfl))
    |(go_at_call 140;refine (zQ ht hal6).mono ?_;rw [Hi.out];rintro e w3 ⟨rfl,rfl⟩))
   go_ret
   exact⟨zan (by rw [hr.out];rfl),hw1.trans hx2⟩
  ·have Hi:=za hi
   have hwd:=za (zbi hi)
   rw [hi,if_pos rfl] at hr
   clear hv hi
   go_enter Tryz.func171,Tryz.ntmps171
   go_upto_region 1 with fail
   generalize w.alloc (.cells #[.int .i64 s.al,.int .i64 s.st,.slice A n c] 39)=w1 at *
   have c1:=b1.cell
   go_upto_region 3 with (first
    |(go_at_call 94;refine (HV.out _ hw1).mono ?_;rw [Hv.out];rintro e w2 ⟨rfl,hx2⟩;have c2:=((b1.ext hx2).cell 0).trans (show #[Value.int .i64 s.al,.int .i64 s.st,.slice A n c][0]?=some (Value.int .i64 (al:Nat)) by rw [hae.out];rfl))
    |(go_at_call 140;refine (zQ ht hal6).mono ?_;rw [Hi.out];rintro e w3 ⟨rfl,rfl⟩))
   have hw2:=hw1.trans hx2
   have c3:=(b1.ext hx2).cell
   clear c2 c1
   go_wp2_with (go_at_call 204;refine (spec_l2Run (HS.out _ hw2) Hv.out hwd.out).mono ?_;rintro e w4 ⟨rfl,hx4⟩)
   go_ret
   exact⟨zan (by rw [hr.out]),hw2.trans hx4⟩
theorem zho (h:zah w lo hi A n s)(ht:t.size≤9223372036854775807) :
  Calls Tryz.prog 141 #[.agg #[.int .i64 s.al,.int .i64 s.st,.slice A n c],.string t] w fun e w'=>e=.returned (.bool (aftB s t != 0))∧Ext w w':=by
 have HS:=za (fun W (hW:Ext w W)=>zeZ (c:=c) (h.ext hW) ht)
 have hr:=za (show (((aftB s t:Nat):Int) != 0)=(aftB s t != 0) by rw [Bool.eq_iff_iff];simp;try omega)
 generalize aftB s t=y at *
 go_enter Tryz.func141,Tryz.ntmps141
 go_wp2_with (go_at_call 171;refine (HS.out _ ((Ext.refl _).alloc _)).mono ?_;rintro e w2 ⟨rfl,hx2⟩)
 go_ret
 exact⟨zm (by rw [hr.out]),((Ext.refl _).alloc _).trans hx2⟩
end
theorem zhz {PA AA:Option Addr} {pn pc an ac:Nat} {sv mv:Value} {L G:Int} {ss:List Sys} {w:World} {SA:Option Addr} {sn sc lo hi q q':Nat} {st:List Nat} {a p:Aut}(h:zeb w PA pn AA an ss [a,p])(h':Lst zbf w lo hi SA st)(hsn:st.length=sn)(hq:st[pn]?=some q)(hqa:q<a.acc.length)(hq':st[pn+1]?=some q')(hqp:q'<p.acc.length) :
  Calls Tryz.prog 208 #[.agg #[.slice PA pn pc,.slice AA an ac,sv,.int .i64 L,.int .i64 2,.int .i64 G],.slice SA sn sc,mv] w fun e w'=>e=.returned (.bool (zet a q&&!zet p q'))∧Ext w w':=by
 have H1:∀ W,Ext w W→Calls Tryz.prog 243 #[.agg #[.slice PA pn pc,.slice AA an ac,sv,.int .i64 L,.int .i64 2,.int .i64 G],.slice SA sn sc,.int .i64 0] W fun e w'=>e=.returned (.bool (zet a q))∧Ext W w':=
  fun W hW=>zfS (i:=0) (a:=a) (q:=q) (st:=st) (us:=[a,p]) (h.ext hW) (h'.ext zbf.ok hW) hsn (by simp) (by rw [Nat.add_zero];exact hq) hqa
 replace H1:=za H1
 have H2:∀ W,Ext w W→Calls Tryz.prog 243 #[.agg #[.slice PA pn pc,.slice AA an ac,sv,.int .i64 L,.int .i64 2,.int .i64 G],.slice SA sn sc,.int .i64 1] W fun e w'=>e=.returned (.bool (zet p q'))∧Ext W w':=
  fun W hW=>zfS (i:=1) (a:=p) (q:=q') (st:=st) (us:=[a,p]) (h.ext hW) (h'.ext zbf.ok hW) hsn (by simp) hq' hqp
 replace H2:=za H2
 clear h h' hsn hq hqa hq' hqp
 generalize zet a q=x at *
 generalize zet p q'=y at *
 go_enter Tryz.func208,Tryz.ntmps208
 have hw1:Ext w (w.alloc (.cells #[.slice PA pn pc,.slice AA an ac,sv,.int .i64 L,.int .i64 2,.int .i64 G] 178)):=(Ext.refl w).alloc _
 have hb1:=Blk.new w 178 #[.slice PA pn pc,.slice AA an ac,sv,.int .i64 L,.int .i64 2,.int .i64 G]
 cases x
 all_goals
  go_upto_region 1 with fail
  generalize w.alloc (.cells #[.slice PA pn pc,.slice AA an ac,sv,.int .i64 L,.int .i64 2,.int .i64 G] 178)=w1 at *
  have c0:=hb1.cell
  go_wp2_with (first
   |(go_at_call 243;with_reducible refine (H1.out _ hw1).mono ?_;rintro e w2 ⟨rfl,hx2⟩;have hw2:=hw1.trans hx2;have c2:=(hb1.ext hx2).cell)
   |(go_at_call 243;with_reducible refine (H2.out _ hw2).mono ?_;rintro e w3 ⟨rfl,hx3⟩;have hw3:=hw2.trans hx3))
  go_ret
  exact⟨zm (by simp),by first|exact hw3|exact hw2⟩
theorem zhA {PA AA:Option Addr} {pn pc an ac:Nat} {sv mv:Value} {L G:Int} {ss:List Sys} {w:World} {SA:Option Addr} {sn sc lo hi q:Nat} {st:List Nat} {p:Aut}(h:zeb w PA pn AA an ss [p])(h':Lst zbf w lo hi SA st)(hsn:st.length=sn)(hq:st[pn]?=some q)(hqa:q<p.acc.length) :
  Calls Tryz.prog 208 #[.agg #[.slice PA pn pc,.slice AA an ac,sv,.int .i64 L,.int .i64 3,.int .i64 G],.slice SA sn sc,mv] w fun e w'=>e=.returned (.bool (!zet p q))∧Ext w w':=by
 have H1:∀ W,Ext w W→Calls Tryz.prog 243 #[.agg #[.slice PA pn pc,.slice AA an ac,sv,.int .i64 L,.int .i64 3,.int .i64 G],.slice SA sn sc,.int .i64 0] W fun e w'=>e=.returned (.bool (zet p q))∧Ext W w':=
  fun W hW=>zfS (i:=0) (a:=p) (q:=q) (st:=st) (us:=[p]) (h.ext hW) (h'.ext zbf.ok hW) hsn (by simp) (by rw [Nat.add_zero];exact hq) hqa
 replace H1:=za H1
 clear h h' hsn hq hqa
 generalize zet p q=x at *
 go_enter Tryz.func208,Tryz.ntmps208
 have hw1:Ext w (w.alloc (.cells #[.slice PA pn pc,.slice AA an ac,sv,.int .i64 L,.int .i64 3,.int .i64 G] 178)):=(Ext.refl w).alloc _
 have hb1:=Blk.new w 178 #[.slice PA pn pc,.slice AA an ac,sv,.int .i64 L,.int .i64 3,.int .i64 G]
 go_upto_region 1 with fail
 generalize w.alloc (.cells #[.slice PA pn pc,.slice AA an ac,sv,.int .i64 L,.int .i64 3,.int .i64 G] 178)=w1 at *
 have c0:=hb1.cell
 go_wp2_with (go_at_call 243;with_reducible refine (H1.out _ hw1).mono ?_;rintro e w2 ⟨rfl,hx2⟩;have hw2:=hw1.trans hx2)
 go_ret
 exact⟨zm (by simp),hw2⟩
theorem prodS_snoc (l:List Nat) (x:Nat):zap (l++[x])=zap l*x:=by rw [zbY];simp [zap]
theorem encF_zero (sz:List Nat):∀ n,encF 0 sz (List.replicate n 0)=0:=by
 have key:∀ (sz:List Nat) (n:Nat),encF 0 sz (List.replicate n 0)=0:=by
  intro sz
  induction sz with
  |nil=>intro n;cases n<;>rfl
  |cons s r ih =>
   intro n
   cases n with
   |zero=>rfl
   |succ n=>rw [List.replicate_succ,encF,Nat.zero_mul,Nat.zero_add];exact ih n
 exact key sz
def ds0 (goal:Nat→Bool) (k:Nat):List Int:=(List.range k).map fun x=>if goal x then 0 else -1
theorem ds0_get {goal:Nat→Bool} {k x:Nat} {v:Int}(h:(ds0 goal k)[x]?=some v):v=if goal x then 0 else -1:=by
 unfold ds0 at h
 rw [List.getElem?_map,Option.map_eq_some_iff] at h
 obtain⟨y,h1,h2⟩:=h
 have h3:=(List.getElem?_eq_some_iff.1 h1)
 obtain⟨h4,h5⟩:=h3
 rw [List.getElem_range] at h5
 subst h5
 exact h2.symm
theorem zcF {PA AA SA:Option Addr} {pn pc an ac n sc lo hi:Nat} {K G:Int} {L:Nat} {ss:List Sys} {us:List Aut} {goal:Nat→Bool} {w:World}(h:zeb w PA pn AA an ss us)(hok:zco ss us)(hS:Lst zbf w lo hi SA (List.replicate n 0))(hn:(szs ss us).length=n)(hL:L<64)
  (HF:∀ W,Ext w W→∀ (x:Nat) (A:Option Addr) (l h c:Nat) (mv:Value),x<zak (zaS ss us)→Lst zbf W l h A (dec (szs ss us) x)→Calls Tryz.prog 208 #[.agg #[.slice PA pn pc,.slice AA an ac,.slice SA n sc,.int .i64 L,.int .i64 K,.int .i64 G],.slice A n c,mv] W fun e W'=>e=.returned (.bool (goal x))∧Ext W W') :
  Calls Tryz.prog 173 #[.agg #[.slice PA pn pc,.slice AA an ac,.slice SA n sc,.int .i64 L,.int .i64 K,.int .i64 G]] w (zfo w (pnx (zaS ss us)) [0] goal (letters L 6)):=by
 have hw1:Ext w (w.alloc (.cells #[.slice PA pn pc,.slice AA an ac,.slice SA n sc,.int .i64 L,.int .i64 K,.int .i64 G] 178)):=(Ext.refl w).alloc _
 have hb1:=Blk.new w 178 #[.slice PA pn pc,.slice AA an ac,.slice SA n sc,.int .i64 L,.int .i64 K,.int .i64 G]
 have HN:=za (fun W (hW:Ext w W)=>h.ext hW)
 have HST:=za (fun W (hW:Ext w W)=>hS.ext zbf.ok hW)
 have HFo:=za HF
 have Hok:=za hok
 have Hn:=za hn
 have hn5:n≤5:=by rw [← hn];exact hok.len
 have Hz:=za hok.le16
 have Htot:=za (fun k=>hok.total ((szs ss us).take k) (List.take_sublist _ _))
 have hLs:Sm L:=by unfold Sm;omega
 obtain⟨N,hNe⟩:∃ N:Nat,Hid (zap (szs ss us)=N):=⟨_,rfl⟩
 have hN1:1≤N∧N≤1048576:=by rw [← hNe.out];exact hok.total _ (List.Sublist.refl _)
 have HNm:=za (show zak (zaS ss us)=N by unfold zak;rw [zel];exact hNe.out)
 obtain⟨hN0,hNM⟩:=hN1
 have Hd:=za (show ∀ x l,x<N→l∈letters L 6→∀ y∈pnx (zaS ss us) x l,y<N from fun x l _ hl y hy=>by rw [← HNm.out];exact pnx_lt hok.ok (zX.1 hl).1 y hy)
 have Hrise:=za (show Rise (letters L 6) from ⟨fun l hl=>(zX.1 hl).1,fun a b x y hx hy hab=>by
  have:=List.pairwise_iff_getElem.1 (zgA L 6) a b (List.getElem?_eq_some_iff.1 hx).1 (List.getElem?_eq_some_iff.1 hy).1 hab
  rw [(List.getElem?_eq_some_iff.1 hx).2,(List.getElem?_eq_some_iff.1 hy).2] at this
  exact this⟩)
 clear h hok hS hn HF
 generalize hdd:pnx (zaS ss us)=d at *
 have Hdd:=za hdd
 clear hdd
 generalize hLL:letters L 6=LL at *
 have HLL:=za hLL
 clear hLL
 go_enter Tryz.func173,Tryz.ntmps173
 go_upto_region 1 with fail
 generalize w.alloc (.cells #[.slice PA pn pc,.slice AA an ac,.slice SA n sc,.int .i64 L,.int .i64 K,.int .i64 G] 178)=w1 at *
 have c0:=hb1.cell
 go_upto_region 2 with (go_at_call 206;go_loud (refine (spec_l4Sizes (HN.out _ hw1) Hok.out).mono ?_);rintro e w2 ⟨Az,cz,rfl,zhT,hx2⟩)
 rw [Hn.out] at zhT
 rw [Hn.out]
 have HSz:=za (fun W (hW:Ext w2 W)=>(Lst.own_nats (xs:=szs ss us) (c:=cz) (A:=Az) (by rw [Hn.out];exact zhT)).ext zbf.ok hW)
 have hw2:=hw1.trans hx2
 have hb2:=hb1.ext hx2
 clear zhT c0
 go_wp2_with fail
 go_loopw [5,6] (fun v i wr=>∃ k y:Nat,i=.int .i64 k∧v=.int .i64 y∧k≤n∧y≤1048576∧Hid (y=zap ((szs ss us).take k))∧wr=w2) (fun _ i _=>n - (intOf i).toNat)
 case atStart=>exact⟨0,1,rfl,rfl,Nat.zero_le _,by omega,rfl,rfl⟩
 case round =>
  obtain⟨k,y,rfl,rfl,hk,hy,hyo,rfl⟩:=hrel
  by_cases hlt:k<n
  ·obtain⟨bz,oz,z,rfl,_,_,hz,hc⟩:=(HSz.out _ (Ext.refl _)).num (show k<(szs ss us).length by rw [Hn.out];exact hlt)
   have hst:=za (show y*z=zap ((szs ss us).take (k+1)) by rw [List.take_add_one,hz.out,Option.toList_some,prodS_snoc,hyo.out])
   have hle:y*z≤1048576:=by rw [hst.out];exact (Htot.out (k+1)).2
   obtain⟨yz,hyz⟩:∃ q:Nat,Hid (y*z=q):=⟨_,rfl⟩
   have hyzi:(y:Int)*(z:Int)=(yz:Int):=by rw [← hyz.out];exact (Int.natCast_mul y z).symm
   rw [hyz.out] at hle hst
   go_wp2_with fail
   go_roundw
   case rel=>exact⟨k+1,yz,by go_num,by go_num,by omega,hle,hst,by first|rfl|trivial⟩
   case measure=>simp [intOf];omega
  ·obtain rfl:n=k:=by omega
   obtain rfl:y=N:=by rw [hyo.out,List.take_of_length_le (by rw [Hn.out];exact Nat.le_refl _)];exact hNe.out
   clear hyo hy
   have c0:=hb2.cell
   have HM0:=za (show Calls Tryz.prog 207 #[.agg #[.slice PA pn pc,.slice AA an ac,.slice SA n sc,.int .i64 L,.int .i64 K,.int .i64 G],.slice Az n cz,.int .i64 (y:Nat)] wr (RetMv wr (mvs d LL y)) from by
    have:=spec_l4Moves (pc:=pc) (ac:=ac) (sv:=.slice SA n sc) (K:=K) (G:=G) (N:=y) (sc:=cz) (HN.out _ hw2) Hok.out (HSz.out _ (Ext.refl _)) Hn.out hL hNM
    rw [Hdd.out,HLL.out] at this
    exact this)
   go_upto_region 8 with (go_at_call 207;refine HM0.out.mono ?_;rintro e w3 ⟨Am,cm,rfl,hlm,hx3⟩)
   rw [zcj]
   have hw3:=hw2.trans hx3
   have hb3:=hb2.ext hx3
   have HM:=za (fun W (hW:Ext w3 W)=>hlm.ext P3.ok hW)
   clear hlm HM0 c0
   go_upto_region 9 with (at_make;refine zbT w3 w3 rfl _ _ 74 rfl 3 _ 1 8 Tryz.underlying74 zac _ _ y rfl rfl (Ext.refl _) (by omega) (by unfold maxLen;omega) ?_;intro w4 hw34 hown4 hx34 hsz4)
   have hown4':w4.ownsRow w3.heap.size 3 1 (.slice (some ⟨w3.heap.size,0,none⟩) y y) y (ints (ds0 goal 0++List.replicate y 0)):=by simpa [ints,ds0,Value.cells,toList_madeCells_one] using hown4
   clear hown4
   obtain⟨gd,hgd⟩:∃ gd,Hid (w3.heap.size=gd):=⟨_,rfl⟩
   rw [hgd.out] at hown4'
   rw [hgd.out]
   clear hx34 hsz4
   have hsz3:w3.heap.size≤gd:=by have:=hgd.out;omega
   go_wp2_with fail
   go_loopw [9] (fun i wr=>∃ k:Nat,i=.int .i64 k∧k≤y∧wr.ownsRow gd 3 1 (.slice (some ⟨gd,0,none⟩) y y) y (ints (ds0 goal k++List.replicate (y - k) 0))∧Ext w3 wr) (fun i _=>y - (intOf i).toNat)
   case atStart=>exact⟨0,rfl,Nat.zero_le _,hown4',hw34⟩
   case round =>
    clear hown4' hw34
    obtain⟨k,rfl,hk,zhJ,hx⟩:=hrel
    by_cases hlt:k<y
    ·obtain⟨o0,g0⟩:=zbJ zhJ k (by omega)
     have f0:=zhJ.frozenAt k
     have hss:=zhJ.stored k (.int .i64 (-1))
     have hsz:k<(ints (ds0 goal k++List.replicate (y - k) 0)).length:=by rw [zfG zhJ];omega
     have hset:(ints (ds0 goal k++List.replicate (y - k) 0)).set k (.int .i64 (-1))=ints (ds0 goal k++(-1) :: List.replicate (y - k - 1) 0):=by
      rw [ints,ints,← List.map_set]
      congr 1
      rw [List.set_append_right _ _ (by simp [ds0]),show (ds0 goal k).length=k by simp [ds0],Nat.sub_self]
      obtain⟨m,hm⟩:∃ m,y - k=m+1:=⟨y - k - 1,by omega⟩
      rw [hm];rfl
     rw [hset] at hss
     have zhS:=hss.1
     have hx1:Ext w3 (wr.setCell ⟨gd,k,none⟩ (.int .i64 (-1))):=hx.setCell (p:=⟨gd,k,none⟩) hsz3 _
     clear hss hset zhJ
     go_upto_region 13 with fail
     clear g0 f0
     have Hsz:=za hsz
     clear hsz
     generalize wr.setCell ⟨gd,k,none⟩ (.int .i64 (-1))=w5 at *
     obtain⟨bm,om,v,row,rfl,_,_,_,hcm,Ar,cr,rfl,_⟩:=(HM.out w5 hx1).get (show k<(mvs d LL y).length by rw [zcj];exact hlt)
     have hw5:=hw3.trans hx1
     have CB:∀ W,Ext w5 W→∀ j,W.cell? ⟨w.heap.size,j,none⟩=#[Value.slice PA pn pc,.slice AA an ac,.slice SA n sc,.int .i64 L,.int .i64 K,.int .i64 G][j]?:=fun W hW=>((hb3.ext hx1).ext hW).cell
     have CM:∀ W,Ext w5 W→W.cell? ⟨bm,om+k,none⟩=some (.slice Ar row.length cr):=fun W hW=>hW.cell_some hcm
     have CD:=za (fun W (hW:Ext w5 W)=>zer (c:=cz) (y0:=k) (HSz.out W ((hx3.trans hx1).trans hW)) Hn.out (by omega) Hz.out (by omega))
     have hki:(k:Int)<(y:Int):=by omega
     have hww:=Ext.refl w5
     clear hcm
     refine uR (fun X=>Ext w5 X) [8] (zK.of [0,1,2,4,5,6,7,3,8]) ?_
     refine uQ ?_
     refine zb fun K hK=>?_;go_simp
     refine (CD.out _ hww.drew).mono ?_
     rintro e w6 ⟨A6,c6,rfl,hown6,hx6⟩
     have hl6:(dec (szs ss us) k).length=n:=by rw [zcg];exact Hn.out
     have hL6:=Lst.own_nats hown6
     rw [hl6]
     have hww6:=hww.drew.trans hx6
     refine hK.out _ _ hww6 ?_
     refine pT ?_
     refine uQ ?_
     have HFk:=za (fun mv=>HFo.out w6 (hw5.trans hww6) k A6 _ _ c6 mv (by rw [HNm.out];exact hlt) hL6)
     have hown6':=ze zhS hww6
     have hx36:=hx1.trans hww6
     clear CD CB CM hww hown6 hL6 hx6 zhS
     cases hgk:goal k
     ·have Hgk:=za hgk
      clear hgk
      refine zg fun K hK=>?_
      go_simp
      refine (HFk.out _).mono ?_
      rw [Hgk.out]
      rintro e w7 ⟨rfl,hx7⟩
      refine hK.out _ _ ?_
      refine pT ?_
      refine uQ ?_
      refine zj ?_
      have zhM:=ze hown6' hx7
      rw [show ds0 goal k++(-1) :: List.replicate (y - k - 1) 0=ds0 goal (k+1)++List.replicate (y - (k+1)) 0 by
       rw [ds0,ds0,List.range_succ,List.map_append];simp [Hgk.out,Nat.sub_sub]] at zhM
      go_wp2_with fail
      go_roundw
      case rel=>exact⟨k+1,by go_num,by omega,zhM,hx36.trans hx7⟩
      case measure=>simp [intOf];omega
     ·have Hgk:=za hgk
      clear hgk
      refine zg fun K hK=>?_
      go_simp
      refine (HFk.out _).mono ?_
      rw [Hgk.out]
      rintro e w7 ⟨rfl,hx7⟩
      refine hK.out _ _ ?_
      refine pT ?_
      refine uQ ?_
      refine zj ?_
      have hown7:=ze hown6' hx7
      have hx37:=hx36.trans hx7
      obtain⟨o1,g1⟩:=zbJ hown7 k (by omega)
      have f1:=hown7.frozenAt k
      have hss:=hown7.stored k (.int .i64 0)
      have hset:(ints (ds0 goal k++(-1) :: List.replicate (y - k - 1) 0)).set k (.int .i64 0)=ints (ds0 goal (k+1)++List.replicate (y - (k+1)) 0):=by
       rw [ints,ints,← List.map_set]
       congr 1
       rw [List.set_append_right _ _ (by simp [ds0]),show (ds0 goal k).length=k by simp [ds0],Nat.sub_self,ds0,ds0,List.range_succ,List.map_append]
       simp [Hgk.out,Nat.sub_sub]
      rw [hset] at hss
      have zhM:=hss.1
      have hx38:Ext w3 (w7.setCell ⟨gd,k,none⟩ (.int .i64 0)):=hx37.setCell (p:=⟨gd,k,none⟩) hsz3 _
      clear hss hset
      go_wp2_with fail
      go_roundw
      case rel=>exact⟨k+1,by go_num,by omega,zhM,hx38⟩
      case measure=>simp [intOf];omega
    ·obtain rfl:y=k:=by omega
     rw [Nat.sub_self,List.replicate_zero,List.append_nil] at zhJ
     have hD0:=za (zaX.init (d:=d) (L:=LL) (goal:=goal) (N:=y) (ds:=ds0 goal y) (by simp [ds0]) (fun x v hv=>ds0_get hv))
     have hdist:=za (spec_l4Dist (c:=cm) (cap:=y) (d:=d) (L:=LL) (goal:=goal) (HM.out wr hx) (Or.inr hsz3) zhJ hD0.out hNM Hd.out)
     clear zhJ
     go_upto_region 16 with (go_at_call 210;refine hdist.out.mono ?_;rintro e w6 ⟨rfl,ds,hfinD,hown6,hfr6⟩)
     have hx6:Ext w3 w6:=hx.frm hfr6 (fun k hk e=>by omega)
     clear hdist hx hfr6
     have HD:=za (fun W (hW:Ext w6 W)=>(Lst.of_ints (xs:=ds) (A:=some ⟨gd,0,none⟩) (by rw [hfinD.out.1];exact Reads.of_own hown6)).ext IntP.ok hW)
     have hdl:Hid (ds.length=y):=hfinD.out.1
     clear hown6
     have hw6:=hw3.trans hx6
     have c6:=(hb3.ext hx6).cell
     have HE:=za (show Calls Tryz.prog 211 #[.slice Az n cz,.slice SA n sc] w6 fun e w'=>e=.returned (.int .i64 0)∧Ext w6 w' from by
      have:=zhy (c:=cz) (d:=sc) (HSz.out w6 (hx3.trans hx6)) (HST.out w6 hw6) (by rw [List.length_replicate];exact Hn.out) (fun k _=>by rw [List.take_replicate,encF_zero];omega) (fun x hx=>(Hz.out x hx).2) (fun x hx=>by rw [(List.mem_replicate.1 hx).2];omega)
      rw [Hn.out,List.length_replicate,encF_zero] at this
      exact this)
     go_upto_region 17 with (go_at_call 211;refine HE.out.mono ?_;rintro e w7 ⟨rfl,hx7⟩)
     have hx68:=hx7.alloc (.cells #[.int .i64 0] 3)
     have hb8:=Blk.new w7 3 #[.int .i64 0]
     have hat8:Lst zbf (w7.alloc (.cells #[.int .i64 0] 3)) w7.heap.size (w7.alloc (.cells #[.int .i64 0] 3)).heap.size (some ⟨w7.heap.size,0,none⟩) [0]:=Lst.of_nats ⟨rfl,by simp,fun _=>⟨_,rfl,Nat.le_refl _,by simp,fun j u hu=>by
      rw [zH,Nat.zero_add,hb8.cell]
      cases j with
      |zero=>simpa [zaK] using hu
      |succ j=>simp [zaK] at hu⟩⟩
     clear hx7 hb8 HE c6
     generalize hga:w7.heap.size=ga at *
     clear hga
     generalize w7.alloc (.cells #[.int .i64 0] 3)=w8 at *
     have c8:=(hb3.ext (hx6.trans hx68)).cell
     have HLt:=za (show Calls Tryz.prog 61 #[.int .i64 (L:Nat)] w8 (zbq w8 LL) from by
      have:=zJ L hLs w8
      rw [HLL.out] at this
      exact this)
     go_upto_region 18 with (go_at_call 61;refine HLt.out.mono ?_;rintro e w9 ⟨AL,cL,rfl,hown9,hx9⟩)
     have hx69:=hx68.trans hx9
     have HL:=za (fun W (hW:Ext w9 W)=>(Lst.own_nats hown9).ext zbf.ok hW)
     have hat9:=hat8.ext zbf.ok hx9
     clear hown9 hat8 c8 HLt hx9 hx68
     obtain⟨bd,od,v0,hA,_,_,hv0,hc0⟩:=(HD.out w9 hx69).int (show 0<ds.length by rw [hdl.out];omega)
     obtain⟨rfl,rfl⟩:gd=bd∧0=od:=by injection hA with e;injection e with e1 e2;exact⟨e1,e2⟩
     rw [Nat.zero_add] at hc0
     have hca:=hat9.num2 (k:=0) (x:=0) rfl
     rw [Nat.zero_add] at hca
     clear hA
     rcases hfinD.out.2 0 v0 hv0.out with ⟨rfl,hno⟩|⟨r0,rfl,hM⟩
     ·have hres:=za (show zfo w d [0] goal LL (.returned (.tuple #[.string ByteArray.empty,.bool false])) w9 from ⟨hw6.trans hx69,Or.inr ⟨rfl,lost_of hno⟩⟩)
      go_wp2_with fail
      go_loopw [10,12,13,14,15] (fun _ o v _ _ wr=>o=.string ByteArray.empty∧v=.int .i64 (-1)∧wr=w9) (fun _ _ _ _ _ _=>0)
      case atStart=>exact⟨rfl,rfl,rfl⟩
      case round =>
       obtain⟨rfl,rfl,rfl⟩:=hrel
       go_wp2
       go_ret2
       exact hres.out
     ·have hr0:=hM.lt (by omega) Hd.out
      have HG:=za (zcE.begin_ hM)
      clear hM
      go_wp2_with fail
      go_loopw [10,12,13,14,15] (fun a o v _ _ wr=>∃ (r:Nat) (at_ vw:List Nat) (A:Option Addr) (c lo hi:Nat),a=.slice A at_.length c∧o=.string (wstr vw)∧v=.int .i64 (r:Nat)∧Hid (zcE d LL goal [0] at_ vw r)∧Lst zbf wr lo hi A at_∧vw.length+r=r0∧Ext w9 wr) (fun _ _ v _ _ _=>(intOf v).toNat)
      case atStart=>exact⟨r0,[0],[],_,_,_,_,rfl,rfl,rfl,HG,hat9,by simp,Ext.refl _⟩
      case round =>
       clear HG hat9 hca hc0 hv0
       obtain⟨r,at_,vw,Aa,ca,la,ha,rfl,rfl,rfl,hG,hat,hlen,hx⟩:=hrel
       have h6:=za (fun l hl=>Hrise.out.1 l hl)
       have hws:=zfZ vw
       by_cases hr:0<r
       ·obtain⟨q,rfl⟩:∃ q,r=q+1:=⟨r - 1,by omega⟩
        obtain⟨K0,l0,hK0,x0,n0,hn0,hx0,hM0⟩:=hG.out.exists_
        have hK0l:=(List.getElem?_eq_some_iff.1 hK0).1
        have hatN:=za (fun n (hn:n∈at_)=>(goes_congr (d:=d) (d':=d) (L:=LL) (start:=[0]) (N:=y) (fun x hx=>by simp at hx;omega) (fun x l hx hl=>⟨fun _=>Iff.rfl,Hd.out x l hx hl⟩) hG.out.letters).2 (hG.out.goes n hn).1)
        have hval:=za (fun (n:Nat) (hn:n∈at_) (l:Nat) (hl:l∈LL) (x:Nat) (hx:x∈d n l)=>hfinD.out.val (n:=q) (Hd.out n l (hatN.out n hn) hl x hx))
        have HK0:=za (show ∃ n∈at_,x0∈d n l0∧ds[x0]?=some (q:Int) from ⟨n0,hn0,hx0,(hval.out n0 hn0 l0 (List.mem_of_getElem? hK0) x0 hx0).2 hM0⟩)
        have HK0':=za hK0
        clear hK0 hx0 hM0 hn0
        have hLm:LL.length≤6:=by rw [← HLL.out];exact zq L 6
        have CC:=za (fun W (hW:Ext wr W) (k l:Nat) (hl:LL[k]?=some l)=>zhx (c:=cm) (c':=y) (c2:=ca) (r:=(q:Int)) (HM.out W (hx6.trans ((hx69.trans hx).trans hW))) (HD.out W ((hx69.trans hx).trans hW)) (hat.ext zbf.ok hW) rfl hatN.out hl hdl.out hNM Hd.out)
        obtain⟨l1,hl1⟩:∃ l1,Hid (LL[0]?=some l1):=⟨_,za (List.getElem?_eq_getElem (by omega))⟩
        have hq1:((q+1:Nat):Int) - 1=(q:Int):=by omega
        go_upto_region 24 with (go_at_call 212;refine (CC.out wr (Ext.refl _) 0 l1 hl1.out).mono ?_;rintro e w10 ⟨nx,⟨A10,c10,rfl,hown10,hx10⟩,hnx⟩)
        have hln10:=Lst.own_nats hown10
        clear hown10
        go_wp2_with fail
        go_loopw [14,15] (fun k v wr2=>∃ (kk l:Nat) (nx:List Nat) (A:Option Addr) (c lo hi:Nat),k=.int .i64 kk∧v=.slice A nx.length c∧Lst zbf wr2 lo hi A nx∧kk≤K0∧Hid (LL[kk]?=some l∧(∀ x,x∈nx↔∃ n∈at_,x∈d n l∧ds[x]?=some (q:Int))∧∀ (j m:Nat),j<kk→LL[j]?=some m→∀ n∈at_,∀ x∈d n m,ds[x]?≠some (q:Int))∧Ext wr wr2) (fun k _ _=>LL.length - (intOf k).toNat)
        case atStart=>exact⟨0,l1,nx,_,_,_,_,rfl,rfl,hln10,Nat.zero_le _,(show Hid _ from ⟨hl1.out,hnx.out.2,fun j m hj=>by omega⟩),hx10⟩
        case round =>
         clear hln10 hnx hx10
         obtain⟨kk,l,nx,An,cn,ln,hn_,rfl,rfl,hln,hkk,hst,hx2⟩:=hrel
         have hlnx:=hln.len
         by_cases hz0:nx.length=0
         ·have hkK:kk<K0:=by
           rcases Nat.lt_or_ge kk K0 with h1|h1
           ·exact h1
           ·exfalso
            obtain rfl:kk=K0:=by omega
            obtain⟨n,h2,h3,h4⟩:=HK0.out
            have h5:=hst.out.1
            rw [HK0'.out] at h5
            obtain rfl:=Option.some.inj h5
            have:=(hst.out.2.1 x0).2 ⟨n,h2,h3,h4⟩
            rw [List.eq_nil_of_length_eq_zero hz0] at this
            cases this
          obtain⟨l2,hl2⟩:∃ l2,Hid (LL[kk+1]?=some l2):=⟨_,za (List.getElem?_eq_getElem (by omega))⟩
          have hz1:((nx.length:Int)==0)=true:=by simp [hz0]
          have hcl:=za (CC.out _ hx2 (kk+1) l2 hl2.out)
          have hkc:((kk+1:Nat):Int)=(kk:Int)+1:=by omega
          rw [hkc] at hcl
          go_upto_region 26 with fail
          go_wp2_with (go_at_call 212;refine hcl.out.mono ?_;rintro e w11 ⟨nx2,⟨A11,c11,rfl,hown11,hx11⟩,hnx2⟩)
          have hst2:=za (show LL[kk+1]?=some l2∧(∀ x,x∈nx2↔∃ n∈at_,x∈d n l2∧ds[x]?=some (q:Int))∧∀ (j m:Nat),j<kk+1→LL[j]?=some m→∀ n∈at_,∀ x∈d n m,ds[x]?≠some (q:Int) from ⟨hl2.out,hnx2.out.2,fun j m hj hm n hn x hx=>by
           by_cases e:j=kk
           ·subst e
            have h5:=hst.out.1
            rw [hm] at h5
            obtain rfl:=Option.some.inj h5
            intro h6
            have:=(hst.out.2.1 x).2 ⟨n,hn,hx,h6⟩
            rw [List.eq_nil_of_length_eq_zero hz0] at this
            cases this
           ·exact hst.out.2.2 j m (by omega) hm n hn x hx⟩)
          have hln11:=Lst.own_nats hown11
          have hx211:=hx2.trans hx11
          go_roundw
          case rel=>exact⟨kk+1,l2,nx2,_,_,_,_,by go_num,rfl,hln11,by omega,hst2,hx211⟩
          case measure=>simp [intOf];omega
         ·have hz1:((nx.length:Int)==0)=false:=by rw [beq_eq_false_iff_ne];omega
          have hG2:=za (show zcE d LL goal [0] nx (vw++[l]) q from by
           obtain⟨h1,h2,h3⟩:=hst.out
           refine hG.out.step Hrise.out h1 (fun x=>?_) (fun e=>hz0 (by rw [e];rfl)) (fun j m hj hm n hn x hx=>?_)
           ·rw [h2 x]
            constructor
            ·rintro ⟨n,h4,h5,h6⟩
             exact⟨n,h4,h5,(hval.out n h4 l (List.mem_of_getElem? h1) x h5).1 h6⟩
            ·rintro ⟨n,h4,h5,h6⟩
             exact⟨n,h4,h5,(hval.out n h4 l (List.mem_of_getElem? h1) x h5).2 h6⟩
           ·intro hM
            exact h3 j m hj hm n hn x hx ((hval.out n hn m (List.mem_of_getElem? hm) x hx).2 hM))
          obtain⟨bl,ol,l',rfl,_,_,hl',hcl⟩:=(HL.out _ (hx.trans hx2)).num (show kk<LL.length by omega)
          obtain rfl:l=l':=by have h1:=hl'.out;rw [hst.out.1] at h1;exact Option.some.inj h1
          have hl6:=h6.out l (List.mem_of_getElem? hl'.out)
          have hsum:(wstr vw).size+(strOfNums [((97+l:Nat):Int)]).size≤9223372036854775807:=by rw [hws,zbZ];omega
          have hsum2:¬ 9223372036854775807<vw.length+1:=by omega
          have h1s:=zbZ ((97+l:Nat):Int)
          have hsn:=za (wstr_snoc vw l)
          have hlen2:(vw++[l]).length+q=r0:=by rw [List.length_append,List.length_singleton];omega
          clear hl'
          go_wp2_with (go_at_call 111;refine (zdC hl6).mono ?_;rintro e w12 ⟨rfl,hx12⟩)
          have hx13:=(hx.trans hx2).trans hx12
          have hln12:=hln.ext zbf.ok hx12
          go_roundw
          case rel=>exact⟨q,nx,vw++[l],_,_,_,_,rfl,by rw [hsn.out,Int.natCast_add];rfl,by first|rfl|rw [hq1],hG2,hln12,hlen2,hx13⟩
          case measure=>simp [intOf]
       ·obtain rfl:r=0:=by omega
        have hres:=za (show zfo w d [0] goal LL (.returned (.tuple #[.string (wstr vw),.bool true])) wr from ⟨hw6.trans (hx69.trans hx),Or.inl ⟨vw,rfl,hG.out.fin Hrise.out.1⟩⟩)
        go_wp2
        go_ret2
        exact hres.out
theorem accB_cell {w:World} {lo hi q:Nat} {B B':Option Addr} {m m':Nat} {a:Aut}(h:zM w lo hi B m B' m' a)(hq:q<m'):∃ ad,B'=some ad∧w.cell? (ad.add q)=some (.bool (zet a q)):=by
 obtain⟨ad,x,rfl,_,_,hx,hc⟩:=h.2.2.bool hq
 exact⟨ad,rfl,by rw [hc];unfold zet;rw [List.getD_eq_getElem?_getD,hx.out];rfl⟩
def brkD (ss:List Sys) (a p:Aut) (x l:Nat):List Nat:=(nx ss (x / p.next.length / a.next.length) l).1.map fun y=>y*a.next.length*p.next.length+(aGo a (x / p.next.length % a.next.length) l*p.next.length+aGo p (x % p.next.length) l)
theorem zgV (ss:List Sys) (a p:Aut):brkD ss a p=pnx (zaS ss [a,p]):=by
 funext x l
 rw [brkD,zaS,List.map_cons,List.map_cons,List.map_nil,pnx_under]
def brkG (a p:Aut) (x:Nat):Bool:=zet a (x / p.next.length % a.next.length)&&!zet p (x % p.next.length)
noncomputable def lostB (d:Nat→Nat→List Nat) (start:List Nat) (goal:Nat→Bool) (L:List Nat):Bool:=@decide (Lost d start goal L) (Classical.propDecidable _)
noncomputable def zeI (d:Nat→Nat→List Nat) (start:List Nat) (goal:Nat→Bool) (L:List Nat):List Nat:=@dite _ (∃ v,Found d start goal L v) (Classical.propDecidable _) (fun h=>Classical.choose h) (fun _=>[])
section
variable {d:Nat→Nat→List Nat} {start L:List Nat} {goal:Nat→Bool}
theorem found_uniq (h6:∀ l∈L,l<6) {u v:List Nat}(hu:Found d start goal L u)(hv:Found d start goal L v):u=v:=by
 obtain⟨u1,⟨x,u2,u3⟩,u4⟩:=hu
 obtain⟨v1,⟨y,v2,v3⟩,v4⟩:=hv
 have h1:¬ zdF u<zdF v:=fun h=>by
  have:=v4 u u1 h x u2
  rw [u3] at this;cases this
 have h2:¬ zdF v<zdF u:=fun h=>by
  have:=u4 v v1 h y v2
  rw [v3] at this;cases this
 exact wval_inj _ u v (Nat.le_refl _) (fun l hl=>h6 l (u1 l hl)) (fun l hl=>h6 l (v1 l hl)) (by omega)
theorem zfx (h6:∀ l∈L,l<6) {v:List Nat}(h:Found d start goal L v):zeI d start goal L=v∧lostB d start goal L=false:=by
 constructor
 ·unfold zeI
  rw [@dif_pos _ (Classical.propDecidable _) ⟨v,h⟩]
  exact found_uniq h6 (Classical.choose_spec (⟨v,h⟩:∃ v,Found d start goal L v)) h
 ·refine @decide_eq_false _ (Classical.propDecidable _) fun hl=>?_
  obtain⟨h1,⟨x,h2,h3⟩,_⟩:=h
  have:=hl v h1 x h2
  rw [h3] at this;cases this
theorem zgC (h:Lost d start goal L):zeI d start goal L=[]∧lostB d start goal L=true:=by
 constructor
 ·unfold zeI
  rw [@dif_neg _ (Classical.propDecidable _)]
  rintro ⟨v,h1,⟨x,h2,h3⟩,_⟩
  have:=h v h1 x h2
  rw [h3] at this;cases this
 ·exact @decide_eq_true _ (Classical.propDecidable _) h
theorem zfo.first {w:World} {e:Ending} {w':World}(h:zfo w d start goal L e w')(h6:∀ l∈L,l<6):e=.returned (.tuple #[.string (wstr (zeI d start goal L)),.bool (!lostB d start goal L)])∧Ext w w':=by
 obtain⟨hx,⟨v,rfl,hF⟩|⟨rfl,hL⟩⟩:=h
 ·obtain⟨h1,h2⟩:=zfx h6 hF
  rw [h1,h2]
  exact⟨rfl,hx⟩
 ·obtain⟨h1,h2⟩:=zgC hL
  rw [h1,h2]
  exact⟨rfl,hx⟩
end
noncomputable def vioW (ss:List Sys) (a p:Aut):ByteArray:=wstr (zeI (brkD ss a p) [0] (brkG a p) (letters (zaz ss|||a.al.toNat) 6))
noncomputable def vioB (ss:List Sys) (a p:Aut):Bool:=!lostB (brkD ss a p) [0] (brkG a p) (letters (zaz ss|||a.al.toNat) 6)
theorem zfE (a:Nat):∀ l∈letters a 6,l<6:=fun _ hl=>(zX.1 hl).1
theorem brkD_free (ss:List Sys) (p:Aut):brkD ss free p=pnx (zaS ss [p]):=by
 rw [zgV]
 funext x l
 exact pnx_free ss p x l
theorem brkG_free (p:Aut) (x:Nat):brkG free p x=!zet p (x % p.next.length):=by
 unfold brkG
 rw [show free.next.length=1 from rfl,Nat.mod_one]
 rfl
theorem sl_one {w:World} {g lo hi n c:Nat} {B:Option Addr} {s:Sys}(hb:Blk w g 39 #[.int .i64 s.al,.int .i64 s.st,.slice B n c])(h:zah w lo hi B n s):∃ lo hi,SLAt w lo hi (some ⟨g,0,none⟩) 1 [s]:=by
 refine⟨0,hi+g+1,rfl,[.int .i64 s.al,.int .i64 s.st,.slice B n c],⟨rfl,by omega,fun _=>⟨_,rfl,Nat.zero_le _,by dsimp only;omega,fun j u hu=>?_⟩⟩,fun k t ht=>?_⟩
 ·rw [zH,Nat.zero_add,hb.cell]
  simpa using hu
 ·cases k with
  |zero =>
   simp at ht;subst ht
   exact⟨B,n,c,rfl,rfl,rfl,h.1,h.2.more (Nat.zero_le _) (by omega)⟩
  |succ k=>simp at ht
theorem al_one {w:World} {g lo hi n c n' c':Nat} {B B':Option Addr} {a:Aut}(hb:Blk w g 26 #[.int .i64 a.al,.slice B n c,.slice B' n' c'])(h:zM w lo hi B n B' n' a):∃ lo hi,ALAt w lo hi (some ⟨g,0,none⟩) 1 [a]:=by
 refine⟨0,hi+g+1,rfl,[.int .i64 a.al,.slice B n c,.slice B' n' c'],⟨rfl,by omega,fun _=>⟨_,rfl,Nat.zero_le _,by dsimp only;omega,fun j u hu=>?_⟩⟩,fun k t ht=>?_⟩
 ·rw [zH,Nat.zero_add,hb.cell]
  simpa using hu
 ·cases k with
  |zero =>
   simp at ht;subst ht
   exact⟨B,n,c,B',n',c',rfl,rfl,rfl,h.more (Nat.zero_le _) (by omega)⟩
  |succ k=>simp at ht
theorem al_two {w:World} {g lo hi n c n' c' lo2 hi2 m d m' d':Nat} {B B' C C':Option Addr} {a p:Aut}(hb:Blk w g 26 #[.int .i64 a.al,.slice B n c,.slice B' n' c',.int .i64 p.al,.slice C m d,.slice C' m' d'])(h:zM w lo hi B n B' n' a)(h':zM w lo2 hi2 C m C' m' p):∃ lo hi,ALAt w lo hi (some ⟨g,0,none⟩) 2 [a,p]:=by
 refine⟨0,hi+hi2+g+1,rfl,[.int .i64 a.al,.slice B n c,.slice B' n' c',.int .i64 p.al,.slice C m d,.slice C' m' d'],⟨rfl,by omega,fun _=>⟨_,rfl,Nat.zero_le _,by dsimp only;omega,fun j u hu=>?_⟩⟩,fun k t ht=>?_⟩
 ·rw [zH,Nat.zero_add,hb.cell]
  simpa using hu
 ·match k with
  |0 =>
   simp at ht;subst ht
   exact⟨B,n,c,B',n',c',rfl,rfl,rfl,h.more (Nat.zero_le _) (by omega)⟩
  |1 =>
   simp at ht;subst ht
   exact⟨C,m,d,C',m',d',rfl,rfl,rfl,h'.more (Nat.zero_le _) (by omega)⟩
  |k+2=>simp at ht
theorem zeros_row {w:World} {base g n:Nat}(h:w.ownsRow base 3 1 (.slice (some ⟨g,0,none⟩) n n) n (zaK (List.replicate n 0))):Lst zbf w base w.heap.size (some ⟨g,0,none⟩) (List.replicate n 0):=by
 have hh:=Lst.own_nats (xs:=List.replicate n 0) (W:=w) (base:=base) (c:=n) (A:=some ⟨g,0,none⟩) (by rw [List.length_replicate];exact h)
 exact hh
theorem zeros_blk {w:World} {g n:Nat} {cs:Array Value}(h:Blk w g 3 cs)(hc:cs.toList=zaK (List.replicate n 0))(hn:n≤100):Lst zbf w g (g+1) (some ⟨g,0,none⟩) (List.replicate n 0):=by
 refine Lst.of_nats ⟨by simp [zaK],by simp;omega,fun _=>⟨_,rfl,Nat.le_refl _,by simp,fun j u hu=>?_⟩⟩
 rw [zH,Nat.zero_add,h.cell]
 rw [← hc] at hu
 simpa using hu
theorem zbM {ss:List Sys}(h:zU ss=true):(1≤ss.length∧ss.length≤3)∧∀ s∈ss,zr s=true:=by
 unfold zU at h
 simp only [Bool.and_eq_true,decide_eq_true_eq,List.all_eq_true] at h
 exact⟨⟨h.1,h.2.1⟩,h.2.2⟩
theorem zfn {ss:List Sys}(h:∀ s∈ss,zr s=true):zaz ss≤63:=by
 have:∀ n,zaz (ss.take n)≤63:=by
  intro n
  induction n with
  |zero=>simp [zaz]
  |succ n ih =>
   rcases Nat.lt_or_ge n ss.length with h1|h1
   ·rw [zdX (List.getElem?_eq_getElem h1)]
    have:=zai (h _ (List.getElem_mem h1))
    have:=Nat.or_lt_two_pow (n:=6) (x:=zaz (ss.take n)) (y:=ss[n].al.toNat) (by omega) (by omega)
    omega
   ·rw [List.take_of_length_le (by omega)]
    rw [List.take_of_length_le h1] at ih
    exact ih
 have h2:=this ss.length
 rwa [List.take_length] at h2
theorem first_under {PA AA SA:Option Addr} {pn pc ac sc lo hi:Nat} {G:Int} {L:Nat} {ss:List Sys} {a p:Aut} {w:World}(h:zeb w PA pn AA 2 ss [a,p])(hap:zU ss=true)(hv:zh a=true)(hp:zh p=true)(hS:Lst zbf w lo hi SA (List.replicate (pn+2) 0))(hL:L=zaz ss|||a.al.toNat) :
  Calls Tryz.prog 173 #[.agg #[.slice PA pn pc,.slice AA 2 ac,.slice SA (pn+2) sc,.int .i64 L,.int .i64 2,.int .i64 G]] w fun e w'=>e=.returned (.tuple #[.string (vioW ss a p),.bool (vioB ss a p)])∧Ext w w':=by
 obtain⟨⟨hp1,hp3⟩,hsv⟩:=zbM hap
 have hpn:pn=ss.length:=by obtain⟨_,_,h1⟩:=h.sys;exact h1.1
 have hok:zco ss [a,p]:=⟨hsv,fun b hb=>by simp at hb;rcases hb with rfl|rfl<;>assumption,hp3,by simp⟩
 have hU:=zfn hsv
 have hal:=(zx hv).1
 have hL64:L<64:=by
  rw [hL]
  exact Nat.or_lt_two_pow (n:=6) (by omega) (by omega)
 obtain⟨_,⟨a1,_⟩,a3,_⟩:=zx hv
 obtain⟨_,⟨p1,_⟩,p3,_⟩:=zx hp
 have hsz:szs ss [a,p]=ss.map (fun s=>s.st.toNat)++[a.next.length,p.next.length]:=rfl
 have hln:(szs ss [a,p]).length=pn+2:=by rw [hsz];simp [hpn]
 have key:=zcF (pc:=pc) (ac:=ac) (sc:=sc) (K:=2) (G:=G) (goal:=brkG a p) h hok hS hln hL64 (fun W hW x A l hh c mv hx hl=>by
  have e0:(szs ss [a,p])[pn]?=some a.next.length:=by rw [hsz,List.getElem?_append_right (by simp [hpn])];simp [hpn]
  have e1:(szs ss [a,p])[pn+1]?=some p.next.length:=by rw [hsz,List.getElem?_append_right (by simp [hpn])];simp [hpn]
  have d0:(szs ss [a,p]).drop (pn+1)=[p.next.length]:=by
   rw [hsz,List.drop_append,List.drop_of_length_le (by simp [hpn])]
   simp [hpn]
  have d1:(szs ss [a,p]).drop (pn+1+1)=[]:=List.drop_of_length_le (by rw [hln];omega)
  have f0:=zgW (x:=x) e0
  have f1:=zgW (x:=x) e1
  rw [d0] at f0
  rw [d1] at f1
  simp only [zap,Nat.mul_one,Nat.div_one] at f0 f1
  exact zhz (h.ext hW) hl (by rw [zcg,hln]) f0 (by rw [a3];exact Nat.mod_lt _ a1) f1 (by rw [p3];exact Nat.mod_lt _ p1))
 refine key.mono fun e w' hr=>?_
 have:=hr.first (zfE L)
 rw [← zgV,hL] at this
 exact this
theorem zgw {PA AA SA:Option Addr} {pn pc ac sc lo hi:Nat} {G:Int} {L:Nat} {ss:List Sys} {p:Aut} {w:World}(h:zeb w PA pn AA 1 ss [p])(hap:zU ss=true)(hp:zh p=true)(hS:Lst zbf w lo hi SA (List.replicate (pn+1) 0))(hL:L=zaz ss) :
  Calls Tryz.prog 173 #[.agg #[.slice PA pn pc,.slice AA 1 ac,.slice SA (pn+1) sc,.int .i64 L,.int .i64 3,.int .i64 G]] w fun e w'=>e=.returned (.tuple #[.string (vioW ss free p),.bool (vioB ss free p)])∧Ext w w':=by
 obtain⟨⟨hp1,hp3⟩,hsv⟩:=zbM hap
 have hpn:pn=ss.length:=by obtain⟨_,_,h1⟩:=h.sys;exact h1.1
 have hok:zco ss [p]:=⟨hsv,fun b hb=>by simp at hb;subst hb;assumption,hp3,by simp⟩
 have hU:=zfn hsv
 obtain⟨_,⟨p1,_⟩,p3,_⟩:=zx hp
 have hsz:szs ss [p]=ss.map (fun s=>s.st.toNat)++[p.next.length]:=rfl
 have hln:(szs ss [p]).length=pn+1:=by rw [hsz];simp [hpn]
 have key:=zcF (pc:=pc) (ac:=ac) (sc:=sc) (K:=3) (G:=G) (goal:=brkG free p) h hok hS hln (show L<64 by omega) (fun W hW x A l hh c mv hx hl=>by
  have e0:(szs ss [p])[pn]?=some p.next.length:=by rw [hsz,List.getElem?_append_right (by simp [hpn])];simp [hpn]
  have d1:(szs ss [p]).drop (pn+1)=[]:=List.drop_of_length_le (by rw [hln];omega)
  have f0:=zgW (x:=x) e0
  rw [d1] at f0
  simp only [zap,Nat.div_one] at f0
  rw [brkG_free]
  exact zhA (h.ext hW) hl (by rw [zcg,hln]) f0 (by rw [p3];exact Nat.mod_lt _ p1))
 refine key.mono fun e w' hr=>?_
 have:=hr.first (zfE L)
 rw [← brkD_free,hL] at this
 unfold vioW vioB
 rw [show free.al.toNat=0 from rfl,Nat.or_zero]
 exact this
theorem zgF (s:ByteArray) (a:Nat):(zbN s a).size≤s.size:=by
 have h:=keepL_len s a s.size
 rw [List.take_of_length_le (by simp)] at h
 have e:(zbN s a).size=(bnum (zgf a s.data.toList)).length:=by unfold zbN;rw [strOfNums_size]
 rw [e,bnum,List.length_map]
 exact h
def topB (ss:List Sys) (t:ByteArray):Bool:=zU ss&&(inB t (zaz ss)&&ss.all fun s=>aftB s (zbN t s.al.toNat) != 0)
section
variable {lo hi n c:Nat} {A:Option Addr} {ss:List Sys} {t:ByteArray} {w:World}
theorem all_next {ss:List Sys} {f:Sys→Bool} {k:Nat} {s:Sys}(h:ss[k]?=some s)(ha:(ss.take k).all f=true)(hf:f s=true):(ss.take (k+1)).all f=true:=by
 rw [List.take_add_one,h,List.all_append,ha];simp [hf]
theorem all_not {ss:List Sys} {f:Sys→Bool} {k:Nat} {s:Sys}(h:ss[k]?=some s)(hf:f s=false):ss.all f=false:=by
 rw [List.all_eq_false];exact⟨s,List.mem_of_getElem? h,by simp [hf]⟩
theorem zeD (h:SLAt w lo hi A n ss)(ht:t.size≤9223372036854775807) :
  Calls Tryz.prog 95 #[.slice A n c,.string t] w fun e w'=>e=.returned (.bool (topB ss t))∧Ext w w':=by
 have hn:=h.len
 have hL:=za h.1
 have HS:=za (fun W (hW:Ext w W)=>h.ext hW)
 clear h
 cases hp:zU ss
 ·have hPA:=za (show zby ss = -1 by unfold zby;rw [hp];rfl)
  have hr:=za (show topB ss t=false by unfold topB;rw [hp];rfl)
  clear hp
  go_enter Tryz.func95,Tryz.ntmps95
  go_wp2_with (go_at_call 130;refine (zY (HS.out _ (Ext.refl _))).mono ?_;rw [hPA.out];rintro e w1 ⟨rfl,hx⟩)
  go_ret
  exact⟨zm (by rw [hr.out]),hx⟩
 ·have hv:=za (zbM hp).2
  have hu:=zfn hv.out
  have hPA:=za (show zby ss=(zaz ss:Int) by unfold zby;rw [hp];rfl)
  have hr:=za (show topB ss t=(inB t (zaz ss)&&ss.all fun s=>aftB s (zbN t s.al.toNat) != 0) by unfold topB;rw [hp];rfl)
  clear hp
  generalize zaz ss=u at *
  cases hi:inB t u
  ·have Hi:=za hi
   rw [hi] at hr
   clear hi
   go_enter Tryz.func95,Tryz.ntmps95
   go_wp2_with (first
    |(go_at_call 130;refine (zY (HS.out _ (Ext.refl _))).mono ?_;rw [hPA.out];rintro e w1 ⟨rfl,hx⟩)
    |(go_at_call 140;refine (zQ ht hu).mono ?_;rw [Hi.out];rintro e w3 ⟨rfl,rfl⟩))
   go_ret
   exact⟨zm (by rw [hr.out];rfl),hx⟩
  ·have Hi:=za hi
   have hwd:=za (zbi hi)
   rw [hi,Bool.true_and] at hr
   clear hi
   go_enter Tryz.func95,Tryz.ntmps95
   go_wp2_with (first
    |(go_at_call 130;refine (zY (HS.out _ (Ext.refl _))).mono ?_;rw [hPA.out];rintro e w1 ⟨rfl,hx⟩)
    |(go_at_call 140;refine (zQ ht hu).mono ?_;rw [Hi.out];rintro e w3 ⟨rfl,rfl⟩))
   go_loopw [6] (fun i wr=>∃ k:Nat,k≤n∧i=.int .i64 k∧Hid ((ss.take k).all (fun s=>aftB s (zbN t s.al.toNat) != 0)=true)∧Ext w wr) (fun i _=>n - (intOf i).toNat)
   case atStart=>exact⟨0,Nat.zero_le _,rfl,rfl,hx⟩
   case round =>
    clear hx
    obtain⟨k,hk,rfl,hall,hxr⟩:=hrel
    by_cases hlt:k<n
    ·obtain⟨b,o,s,B,q,d,rfl,_,_,hs,c0,c1,c2,hsy⟩:=(HS.out wr hxr).sys hlt
     obtain⟨ha0,ha1⟩:=zai (hv.out s (List.mem_of_getElem? hs.out))
     obtain⟨al,hal⟩:∃ al:Nat,Hid (s.al=al):=⟨s.al.toNat,by unfold Hid;omega⟩
     have hal6:al≤63:=by have:=hal.out;omega
     have hto:s.al.toNat=al:=by have:=hal.out;omega
     have hsz2:=Nat.le_trans (zgF t al) ht
     have HR:=za (fun W=>zbs (w:=W) hwd.out hal6)
     have HC:=za (fun W (hW:Ext wr W)=>zho (c:=d) (hsy.ext hW) hsz2)
     rw [hal.out] at c0 HC
     have d0:∀ W,Ext wr W→W.cell? ⟨b,o+k*3,none⟩=some (.int .i64 al):=fun W hW=>hW.cell_some c0
     have d1:∀ W,Ext wr W→W.cell? ⟨b,o+k*3+1,none⟩=some (.int .i64 s.st):=fun W hW=>hW.cell_some c1
     have d2:∀ W,Ext wr W→W.cell? ⟨b,o+k*3+2,none⟩=some (.slice B q d):=fun W hW=>hW.cell_some c2
     have hN:=za (fun hb=>all_next (f:=fun s=>aftB s (zbN t s.al.toNat) != 0) hs.out hall.out hb)
     have hF:=za (fun hb=>all_not (f:=fun s=>aftB s (zbN t s.al.toNat) != 0) hs.out hb)
     simp only [hto] at hN hF
     clear hto hsz2 hsy ha0 ha1 hall
     generalize zbN t al=t' at *
     have hww:=Ext.refl wr
     go_upto_region 7 with fail
     refine uR (fun X=>Ext wr X) [11] (zK.of [0,1,2,3,4,5,6,7,8,9,10,11,12]) ?_
     refine uQ ?_
     refine zb fun K hK=>?_;go_simp
     refine (HR.out _).mono ?_
     rintro e w' ⟨rfl,hx1⟩
     have hx2:=hww.drew.trans hx1
     refine hK.out _ _ hx2 ?_
     refine pT ?_
     refine zg fun K hK=>?_
     go_simp
     refine (HC.out _ hx2).mono ?_
     rintro e w5 ⟨rfl,hx5⟩
     refine hK.out _ _ ?_
     refine pT ?_
     refine uQ ?_
     refine zj ?_
     have hx6:=hx2.trans hx5
     cases hb:(aftB s t' != 0)
     ·have hff:=za (hF.out hb)
      clear hF hN
      go_wp2
      go_ret
      exact⟨zm (by rw [hr.out,hff.out]),hxr.trans hx6⟩
     ·have hnn:=za (hN.out hb)
      clear hF hN
      go_wp2_with fail
      go_roundw
      case rel=>exact⟨k+1,by omega,by go_num,hnn,hxr.trans hx6⟩
      case measure=>simp [intOf];omega
    ·obtain rfl:k=n:=by omega
     have zhM:=za (show (ss.all fun s=>aftB s (zbN t s.al.toNat) != 0)=true by have:=hall.out;rwa [List.take_of_length_le (by have:=hL.out;omega)] at this)
     go_wp2
     go_ret
     exact⟨zm (by rw [hr.out,zhM.out]),hxr⟩
end
theorem union_le14 {ss:List Sys}(h:zU ss=true):zaz ss≤63:=by
 have hv:∀ s∈ss,zr s=true:=by
  unfold zU at h
  simp only [Bool.and_eq_true,List.all_eq_true] at h
  exact h.2.2
 have:∀ n,zaz (ss.take n)≤63:=by
  intro n
  induction n with
  |zero=>simp [zaz]
  |succ n ih =>
   rcases Nat.lt_or_ge n ss.length with h1|h1
   ·rw [zdX (List.getElem?_eq_getElem h1)]
    have:=zai (hv _ (List.getElem_mem h1))
    have:=Nat.or_lt_two_pow (n:=6) (x:=zaz (ss.take n)) (y:=ss[n].al.toNat) (by omega) (by omega)
    omega
   ·rw [List.take_of_length_le (by omega)]
    rw [List.take_of_length_le h1] at ih
    exact ih
 have h2:=this ss.length
 rwa [List.take_length] at h2
theorem partsA_cases (ss:List Sys):(∃ a:Nat,zby ss=(a:Int)∧a<64)∨zby ss = -1:=by
 unfold zby
 cases h:zU ss
 ·exact .inr rfl
 ·exact .inl ⟨zaz ss,rfl,by have:=union_le14 h;omega⟩
end Go.Proofs.YtfcjhpodichpjaaGreatDoor
