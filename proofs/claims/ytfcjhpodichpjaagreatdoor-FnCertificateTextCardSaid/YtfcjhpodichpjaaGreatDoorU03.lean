/- Drawn automa -/
import Derived.Test.YtfcjhpodichpjaaGreatDoorU02
import Derived.Laws.Strings
import Derived.Deep.DeepCutAuto
import Derived.Laws.StructEq
import Derived.Deep.CutBlock
import Derived.Deep.AppendLies
set_option maxHeartbeats 4000000
set_option maxRecDepth 100000
namespace Go.Proofs.YtfcjhpodichpjaaGreatDoor
open Go Go.RowKit
section
variable {w0 W W':World} {R G M N:Nat} {al:Int} {v vA:Value} {rows:List Value} {ls:List (List Int)} {acc:List Bool}
theorem zaW.of {A A':Option Addr} {n c n' c':Nat} {a:Aut}(ho:zO W w0.heap.size A n c A' n' c' a)(hr:Rd W R M)(hd:Dr R w0 W)(hR:R<w0.heap.size) :
  ∃ rows,zaW w0 (W.alloc (.cells #[.int .i64 a.al,.slice A n c,.slice A' n' c'] 26)) R W.heap.size M a.al (.slice A n c) rows a.next (.slice A' n' c') a.acc:=by
 obtain⟨⟨rows,h1,h2⟩,h3,h4,h5⟩:=ho
 have hx:=(Ext.refl W).alloc (.cells #[.int .i64 a.al,.slice A n c,.slice A' n' c'] 26)
 refine⟨rows,Blk.new W _ _,ze h1 hx,h2.keep hx.toFrm (fun _ _=>id),?_,hr.ext hx,hd.ext hx,hR,hd.size⟩
 rw [← h5]
 exact ze h4 hx
theorem zaW.setAcc {g n c i:Nat} {x:Bool}(h:zaW w0 W R G M al v rows ls (.slice (some ⟨g,0,none⟩) n c) acc)(hn:n=acc.length) :
  zaW w0 (W.setCell ⟨g,i,none⟩ (.bool x)) R G M al v rows ls (.slice (some ⟨g,0,none⟩) n c) (acc.set i x):=by
 subst hn
 have hf:=Frm.setCell W g i (.bool x)
 have hg:=(h.acc.lt g rfl).1
 have hRG:=h.hR
 have hst:=(h.acc.stored i (.bool x)).1
 rw [show (zas acc).set i (.bool x)=zas (acc.set i x) by simp [zas,List.map_set]] at hst
 refine⟨h.blk.frm hf (fun e=>zk h.acc h.blk (by decide) rfl e.symm),zd h.nx hf (fun b hb hS=>?_),h.rows.frm hf (fun i' r b hr hb hS=>?_),by simpa using hst,h.rd.frm hf (fun k hk e=>by omega),h.dr.setNew (p:=⟨g,i,none⟩) hg _,hRG,h.hG⟩
 ·subst hS;exact zaq h.nx h.acc (by decide) hb rfl
 ·subst hS
  obtain⟨l',_,ho⟩:=h.rows.row hr
  exact zaq ho h.acc (by decide) hb rfl
theorem zaW.setRow {g n c i k:Nat} {x:Int} {l:List Int}(h:zaW w0 W R G M al v rows ls vA acc)(hr:rows[i]?=some (.slice (some ⟨g,0,none⟩) n c))(hl:ls[i]?=some l)(hn:n=l.length) :
  zaW w0 (W.setCell ⟨g,k,none⟩ (.int .i64 x)) R G M al v rows (ls.set i (l.set k x)) vA acc:=by
 subst hn
 have hf:=Frm.setCell W g k (.int .i64 x)
 have ho:=h.rows.2.1 i _ l hr hl
 have hg:=(ho.lt g rfl).1
 have hRG:=h.hR
 have hst:=(ho.stored k (.int .i64 x)).1
 rw [show (ints l).set k (.int .i64 x)=ints (l.set k x) by simp [ints,List.map_set]] at hst
 have hf':Frm (Go.Proofs.YtfcjhpodichpjaaGreatDoor.blk (some ⟨g,0,none⟩)) W (W.setCell ⟨g,k,none⟩ (.int .i64 x)):=hf.mono (fun b _ hb=>⟨_,rfl,hb.symm⟩)
 refine⟨h.blk.frm hf (fun e=>zk ho h.blk (by decide) rfl e.symm),?_,?_,zd h.acc hf (fun b hb hS=>?_),h.rd.frm hf (fun k hk e=>by omega),h.dr.setNew (p:=⟨g,k,none⟩) hg _,hRG,h.hG⟩
 ·rw [List.length_set]
  exact zd h.nx hf (fun b hb hS=>by subst hS;exact zaq h.nx ho (by decide) hb rfl)
 ·have:=h.rows.set_ (w':=W.setCell ⟨g,k,none⟩ (.int .i64 x)) (j:=i) (l:=l.set k x) (A:=some ⟨g,0,none⟩) (c:=c) (by simpa using hr) hf' (by simpa using hst)
  exact this
 ·subst hS;exact zaq h.acc ho (by decide) hb rfl
theorem zaW.row {g n c i:Nat} {l:List Int}(h:zaW w0 W R G M al (.slice (some ⟨g,0,none⟩) n c) rows ls vA acc)(hl:ls[i]?=some l)(hn:n=ls.length) :
  ∃ Ar cr,rows[i]?=some (.slice Ar l.length cr)∧W.cell? ⟨g,i,none⟩=some (.slice Ar l.length cr)∧W.ownsRow w0.heap.size 3 1 (.slice Ar l.length cr) l.length (ints l):=by
 subst hn
 have hi:i<ls.length:=(List.getElem?_eq_some_iff.1 hl).1
 have hi':i<rows.length:=by rw [h.rows.1];exact hi
 have hr:rows[i]?=some rows[i]:=List.getElem?_eq_getElem hi'
 have ho:=h.rows.2.1 i _ l hr hl
 obtain⟨Ar,cr,e⟩:=zf ho
 rw [e] at hr ho
 exact⟨Ar,cr,hr,by rw [h.nx.cellAt i (by omega),hr],ho⟩
end
theorem zfR {R M a p:Nat} {w:World}(h:Rd w R M)(hM:M≤900000000)(ha:a<64)(hp0:1≤p)(hp:p≤16) :
  Calls Tryz.prog 127 #[.pointer (some ⟨R,0,none⟩),.int .i64 a,.int .i64 p] w (zeU R (M+400) (shA a p (letters a 6).length) w):=by
 have hRl:=h.lt
 go_enter Tryz.func127,Tryz.ntmps127
 have hxz:=(Ext.refl w).alloc (.cells #[.int .i64 0,.slice none 0 0,.slice none 0 0] 26)
 have bz:=Blk.new w 26 #[.int .i64 0,.slice none 0 0,.slice none 0 0]
 have hz1:=bz.lt
 go_wp2_with fail
 generalize w.alloc (.cells #[.int .i64 0,.slice none 0 0,.slice none 0 0] 26)=w1 at *
 refine (zep (h.ext hxz) hM ha hp).mono ?_
 rintro e w2 ⟨b,A,n,c,A',n',c',rfl,zhJ,hsh,hr2,hd2⟩
 obtain⟨rows,zhK⟩:=zaW.of zhJ hr2 hd2 (by omega)
 obtain⟨s1,s2,s3,s4⟩:=hsh.out
 have hn:n=b.next.length:=zhJ.2.1
 have hn':n'=b.acc.length:=zhJ.2.2.2
 obtain⟨bal,bnx,bac⟩:=b
 dsimp only at *
 subst s1
 rw [s2] at hn;rw [s3] at hn'
 replace hn:=hn.symm
 replace hn':=hn'.symm
 subst hn;subst hn'
 have hG:=hd2.size
 clear zhJ hr2 hd2 hsh
 have S4:=za s4
 clear s4
 have hl6:=zq a 6
 generalize (letters a 6).length=k at *
 obtain⟨gA,rfl,hgA,-⟩:=zP (s3 ▸ zhK.acc) hp0
 obtain⟨gN,rfl,hgN,-⟩:=zP (s2 ▸ zhK.nx) hp0
 have S2:=za s2
 have S3:=za s3
 clear s2 s3
 go_upto_region 2 with fail
 generalize w2.alloc (.cells #[.int .i64 a,.slice (some ⟨gN,0,none⟩) p c,.slice (some ⟨gA,0,none⟩) p c'] 26)=w3 at *
 generalize w2.heap.size=G at *
 go_wp2_with fail
 go_loopw [8] (fun iv wr=>∃ (i:Nat) (acc:List Bool),i≤p∧iv=.int .i64 (i:Nat)∧zaW w1 wr R G (M+400) a (.slice (some ⟨gN,0,none⟩) p c) rows bnx (.slice (some ⟨gA,0,none⟩) p c') acc∧Hid (acc.length=p)) (fun iv _=>p - (intOf iv).toNat)
 case atStart=>exact⟨0,_,Nat.zero_le _,rfl,zhK,S3⟩
 case round =>
  clear zhK
  obtain⟨i,acc,hi,rfl,zhK,hal⟩:=hrel
  by_cases hip:i<p
  ·have cG:=zhK.blk.cell
   have ho:=zhK.acc
   rw [hal.out] at ho
   obtain⟨o0,c0⟩:=zbJ ho i (by omega)
   have f0:=ho.frozenAt i
   have hset:=zhK.setAcc (i:=i) (x:=decide ((i:Int)<(p:Int) - 1)) hal.out.symm
   clear ho
   go_wp2_with fail
   go_roundw
   case rel=>exact⟨i+1,_,by omega,by go_num,hset,za (by rw [List.length_set];exact hal.out)⟩
   case measure=>simp [intOf];omega
  ·clear hi
   have hp1:p - 1<bnx.length:=by have:=S2.out;omega
   obtain⟨l0,hl0⟩:∃ l,bnx[p - 1]?=some l:=⟨_,List.getElem?_eq_getElem hp1⟩
   have hll:=za (S4.out l0 (List.mem_of_getElem? hl0))
   have Hl0:=za hl0
   have hpc:((p:Int) - 1).toNat=p - 1:=by omega
   clear hl0 hp1
   go_wp2_with fail
   go_loopw [9] (fun iv wr=>∃ (j:Nat) (ls:List (List Int)) (l:List Int),j≤k∧iv=.int .i64 (j:Nat)∧zaW w1 wr R G (M+400) a (.slice (some ⟨gN,0,none⟩) p c) rows ls (.slice (some ⟨gA,0,none⟩) p c') acc∧Hid (ls.length=p)∧Hid (∀ l∈ls,l.length=k)∧Hid (ls[p - 1]?=some l)) (fun iv _=>k - (intOf iv).toNat)
   case atStart=>exact⟨0,_,_,Nat.zero_le _,rfl,zhK,S2,S4,Hl0⟩
   case round =>
    clear zhK hll
    obtain⟨j,ls,l,hj,rfl,zhK,hls,hlk,hl0⟩:=hrel
    have hll:=hlk.out l (List.mem_of_getElem? hl0.out)
    obtain⟨Ar,cr,hrr,hcell,hor⟩:=zhK.row hl0.out hls.out.symm
    have cG:=zhK.blk.cell
    rw [hll] at hrr hcell hor
    have HR:=za hrr
    clear hrr
    by_cases hjk:j<k
    ·obtain⟨g,rfl,-,-⟩:=zP hor (by omega)
     obtain⟨o0,c0⟩:=zbJ hor j (by omega)
     have f0:=hor.frozenAt j
     have hset:=zhK.setRow (k:=j) (x:=(p:Int) - 1) HR.out hl0.out hll.symm
     clear hor
     have HL:=za hll
     clear hll
     go_wp2_with fail
     go_roundw
     case rel =>
      refine⟨j+1,_,l.set j ((p:Int) - 1),by omega,by go_num,hset,za (by rw [List.length_set];exact hls.out),za (fun l' hl'=>?_),za ?_⟩
      ·rcases List.mem_or_eq_of_mem_set hl' with h1|h1
       ·exact hlk.out l' h1
       ·rw [h1,List.length_set];exact HL.out
      ·have:=hls.out
       rw [List.getElem?_set_self (by omega)]
     case measure=>simp [intOf];omega
    ·obtain⟨f1,f2⟩:=zhK.fin (N:=M+400) (sh:=shA a p k) hxz bz rfl hRl (Nat.le_refl _) hz1 (by omega) ⟨rfl,hls.out,hal.out,hlk.out⟩
     have bz5:=bz.dr zhK.dr (by omega)
     have cZ:=bz5.cell
     have fZ:=bz5.frozen
     clear hor hll
     go_wp2_with fail
     have cf:=f2.cell
     exact bodyPost_ret (v:=.agg #[.int .i64 a,.slice (some ⟨gN,0,none⟩) p c,.slice (some ⟨gA,0,none⟩) p c']) (by simp [results,Tryz.results127,go_sem,cf]) rfl f1.out
theorem wpList_push2 {P:Program} (wb w:World) {ops:Array Oper} {rest:List Oper} {o:Oper} {a:Act} {Q:Exit→Act→World→Prop}(hgd:o.guard=none) (s x:Operand) (t:TypeId)
  (ho:o.op=.call { callee:=.builtin .append,args:=#[s,x],argTypes:=#[t,t] })
  (e:TypeId) (z:Value) (size bytes:Nat) (ht:P.underlying t=some (.slice e)) (hi:(P.info? e).map (fun i=>(i.zero,i.size,i.bytes))=some (some z,size,bytes)) (hzs:z.cells.size=size) (hsz:0<size)
  (v:Value) (n:Nat) (xs:List Value) (us:Array Value) (e':TypeId) (hs:a.eval s=v) (hx:a.eval x=.slice (some ⟨w.heap.size,0,none⟩) 1 1)
  (zhL:wb.heap.size≤w.heap.size) (zhJ:w.ownsRow wb.heap.size e size v n xs) (hus:us.size=size) (h1:∀ u∈us.toList,u.oneCell'=true)
  (h63:n+1≤maxLen) (hbytes:(n+1)*bytes≤140737488355328)
  (h:∀ g cap w',w'.ownsRow wb.heap.size e size (.slice (some ⟨g,0,none⟩) (n+1) cap) (n+1) (xs++us.toList)→w.grownBy w' v.ownBlock→(v.ownBlock=some g∨g=w.heap.size+1)→g<w'.heap.size→wpList P ops Q rest (a.put o.dst (.slice (some ⟨g,0,none⟩) (n+1) cap)) w') :
  wpList P ops Q (o :: rest) a (w.alloc (.cells us e')):=
 wpList_plain hgd fun _ hK=>zaC wb w s x t ho e z size bytes ht hi hzs hsz v n xs us e' hs hx zhL zhJ hus h1 h63 hbytes fun g cap w' h2 h3 h4 h5=>hK _ _ (h g cap w' h2 h3 h4 h5)
theorem Reads.str {w:World} {lo hi n k:Nat} {A:Option Addr} {l:List ByteArray}(h:Reads w lo hi 1 A n (zF l))(hk:k<n):∃ ad x,A=some ad∧lo≤ad.block∧ad.block<hi∧Hid (l[k]?=some x)∧w.cell? (ad.add k)=some (.string x):=by
 obtain⟨ad,u,e,h1,h2,hu,hc⟩:=h.one hk
 have:=hu.out
 simp only [zF,List.getElem?_map,Option.map_eq_some_iff] at this
 obtain⟨x,hx,rfl⟩:=this
 exact⟨ad,x,e,h1,h2,hx,hc⟩
theorem valid_good {s:Sys}(h:zr s=true):Good s:=by
 obtain⟨p,hp,hp1,hp2,hf⟩:=zdb h
 obtain⟨a,ha,ha2⟩:=valid_al h
 exact⟨a,p,ha,ha2,hp,hp1,hp2,hf⟩
theorem Acc.fillRD {w0 wB W:World} {R G M Z:Nat} {al st:Int} {v:Value} {es:List Edg}(h:Acc w0 wB W R G M al st v es)(hZ:w0.heap.size≤Z) (u0 u1 u2:Value) :
  Rd (((W.setCell ⟨Z,0,none⟩ u0).setCell ⟨Z,1,none⟩ u1).setCell ⟨Z,2,none⟩ u2) R M∧Dr R w0 (((W.setCell ⟨Z,0,none⟩ u0).setCell ⟨Z,1,none⟩ u1).setCell ⟨Z,2,none⟩ u2):=
 ⟨h.rd.frm (zef W Z u0 u1 u2) (fun k h1 h2=>by have:=h.hR;omega),((h.dr.setNew (p:=⟨Z,0,none⟩) hZ u0).setNew (p:=⟨Z,1,none⟩) hZ u1).setNew (p:=⟨Z,2,none⟩) hZ u2⟩
theorem str_empty {t x:ByteArray}(h:t.toList=x.toList)(h0:t.size=0):x.size=0:=by
 have h1:=congrArg List.length h
 rw [ByteArray.toList_eq,ByteArray.toList_eq] at h1
 have e1:t.data.toList.length=t.size:=rfl
 have e2:x.data.toList.length=x.size:=rfl
 omega
def Fair (s:Sys):Prop:=∃ a p:Nat,s.al=a∧a<64∧s.st=p∧p≤16∧Few (p+1) s.edges
theorem Good.fair {s:Sys}(h:Good s):Fair s:=by
 obtain⟨a,p,h1,h2,h3,_,h5,h6⟩:=h
 exact⟨a,p,h1,h2,h3,h5,fun e he=>by have:=h6 e he;omega⟩
theorem fair_zero:Fair ⟨0,0,[]⟩:=⟨0,0,rfl,by omega,rfl,by omega,fun e he=>by cases he⟩
def zgN (R M L:Nat) (w:World) (e:Ending) (w':World):Prop:=
 ∃ (s:Sys) (A:Option Addr) (n c:Nat) (ok:Bool),e=.returned (.tuple #[.agg #[.int .i64 s.al,.int .i64 s.st,.slice A n c],.bool ok])∧zbd w' R A n s∧((ok=true→Good s)∧Fair s)∧(n≤L∧n≤c)∧Rd w' R M∧Dr R w w'
theorem zfk {R M L:Nat} {w w':World}(h:Rd w' R M)(hd:Dr R w w'):zgN R M L w (.returned (.tuple #[.agg #[.int .i64 0,.int .i64 0,.slice none 0 0],.bool false])) w':=
 ⟨⟨0,0,[]⟩,none,0,0,false,rfl,⟨rfl,by omega,fun h0=>by omega⟩,⟨(fun h=>by cases h),fair_zero⟩,⟨Nat.zero_le _,Nat.le_refl _⟩,h,hd⟩
theorem yU03a5 {P:Prop}(h:P:=by
 obtain⟨g1,g2⟩:=hacc4.fillRD (Z:=w.heap.size) (Nat.le_refl _) (.int .i64 0) (.int .i64 0) (.slice none 0 0)
 exact bodyPost_ret (v:=.tuple #[.agg #[.int .i64 0,.int .i64 0,.slice none 0 0],.bool false]) (by simp [results,Tryz.results71,go_sem,hz4]) rfl (zfk g1 g2)
 ):P:=h
theorem yU03a6 {P:Prop}(h:P:=by
 go_wp2_with fail
 exact bodyPost_ret (v:=.tuple #[.agg #[.int .i64 0,.int .i64 0,.slice none 0 0],.bool false]) (by simp [results,Tryz.results71,go_sem,cz2]) rfl Hnone.out
 ):P:=h
theorem zbE {R M:Nat} {x:ByteArray} {w:World}(h:Rd w R M)(hx:x.size≤1000) :
  Calls Tryz.prog 71 #[.string x] w (zgN R M 1001 w):=by
 have hRl:=h.lt
 go_enter Tryz.func71,Tryz.ntmps71
 go_wp2_with fail
 refine (spec_l19Cut (s:=x) (by omega)).mono ?_
 rintro e w1 ⟨B,m,d,l,rfl,hml,zhS,hlx,hm,hx1⟩
 have bz1:=zav hx1
 have hzz:=bz1.lt
 have hw1:=((Ext.refl w).alloc _).trans hx1
 have hrd:=(Reads.of_own zhS).more (lo':=w.heap.size+1) (hi':=w1.heap.size) (by simp) (Nat.le_refl _)
 have Hlx:=za hlx
 have Hml:=za hml
 clear zhS hlx hml hx1
 have cz:=bz1.cell
 have fz:=bz1.frozen
 have hfill:=za (fun (W:World) (hW:Ext w1 W) (u0 u1 u2:Value)=>(⟨(h.ext (hw1.trans hW)).frm (zef W w.heap.size u0 u1 u2) (fun k hk hS=>by omega),(((hw1.trans hW).dr.setNew (R:=R) (p:=⟨w.heap.size,0,none⟩) (Nat.le_refl _) u0).setNew (p:=⟨w.heap.size,1,none⟩) (Nat.le_refl _) u1).setNew (p:=⟨w.heap.size,2,none⟩) (Nat.le_refl _) u2⟩:Rd (((W.setCell ⟨w.heap.size,0,none⟩ u0).setCell ⟨w.heap.size,1,none⟩ u1).setCell ⟨w.heap.size,2,none⟩ u2) R M∧Dr R w (((W.setCell ⟨w.heap.size,0,none⟩ u0).setCell ⟨w.heap.size,1,none⟩ u1).setCell ⟨w.heap.size,2,none⟩ u2)))
 by_cases hm2:m<2
 ·go_wp2_with fail
  obtain⟨g1,g2⟩:=hfill.out w1 (Ext.refl _) (.int .i64 0) (.int .i64 0) (.slice none 0 0)
  exact bodyPost_ret (v:=.tuple #[.agg #[.int .i64 0,.int .i64 0,.slice none 0 0],.bool false]) (by simp [results,Tryz.results71,go_sem,cz]) rfl (zfk g1 g2)
 ·obtain⟨ad,x0,rfl,hlo,hhi,hx0,hc0⟩:=hrd.str (k:=0) (by omega)
  obtain⟨b,o,rfl⟩:∃ b o,ad=⟨b,o,none⟩:=⟨_,_,zcJ hc0⟩
  rw [zH,Nat.add_zero] at hc0
  obtain⟨ad',x1,hae,_,_,hx1,hc1⟩:=hrd.str (k:=1) (by omega)
  obtain rfl:=Option.some.inj hae
  rw [zH] at hc1
  have hm2':(2:Int)≤(m:Int):=by omega
  have hb1:=za (Hlx.out x1 (List.mem_of_getElem? hx1.out))
  go_wp2_with fail
  refine (zca (x:=x0)).mono ?_
  rintro e w2 ⟨a,ok1,rfl,ha,hx2⟩
  have hc12:=hx2.cell_some hc1
  have bz2:=bz1.ext hx2
  have cz2:=bz2.cell
  have fz2:=bz2.frozen
  go_wp2_with fail
  refine (zbR (s:=x1) (by have:=hb1.out;omega)).mono ?_
  rintro e w2' ⟨st,ok2,rfl,rfl⟩
  obtain⟨g1,g2⟩:=hfill.out w2 hx2 (.int .i64 0) (.int .i64 0) (.slice none 0 0)
  have Hnone:=za (zfk (L:=1001) g1 g2)
  clear g1 g2
  cases ok1
  ·exact yU03a6
  ·cases ok2
   ·exact yU03a6
   ·have bG:=Blk.new w2 39 #[.int .i64 a,.int .i64 st,.slice none 0 0]
    have hx3:=(Ext.refl w2).alloc (.cells #[.int .i64 a,.int .i64 st,.slice none 0 0] 39)
    have hz3:w2.heap.size<(w2.alloc (.cells #[.int .i64 a,.int .i64 st,.slice none 0 0] 39)).heap.size:=by simp
    have hz12:=hx2.size
    have hz01:=hw1.size
    have hw2:=hw1.trans hx2
    clear hc0 hc1 hc12 cz fz cz2 fz2
    go_wp2_with fail
    generalize w2.alloc (.cells #[.int .i64 a,.int .i64 st,.slice none 0 0] 39)=w3 at *
    have hw3:=hw2.trans hx3
    have hrd3:=(hrd.ext hx2).ext hx3
    have bz3:=bz2.ext hx3
    have zhK:Acc w w3 w3 R w2.heap.size M a st (.slice none 0 0) []:=⟨bG,World.ownsRow_nil _ _ _ _,h.ext hw3,hw3.dr,Frm.refl _ _,hRl,hw3.size,by omega⟩
    go_loopw [10] (fun i wr=>∃ (k:Nat) (v:Value) (es:List Edg),2≤k∧k≤m∧i=.int .i64 k∧Acc w w3 wr R w2.heap.size M a st v es∧es.length≤k) (fun i _=>m - (intOf i).toNat)
    case atStart=>exact⟨2,_,[],Nat.le_refl _,by omega,rfl,zhK,Nat.zero_le _⟩
    case round =>
     clear zhK
     obtain⟨k,v,es,hk2,hk,rfl,zhK,hel⟩:=hrel
     have hG:=zhK.blk.cell
     have hbz:=bz3.frm zhK.fr (by omega)
     have hbzc:=hbz.cell
     have hbzf:=hbz.frozen
     have hrdk:=zhK.old hrd3 (by omega)
     by_cases hlt:k<m
     ·obtain⟨ad,xk,hae,_,_,hxk,hck⟩:=hrdk.str hlt
      obtain rfl:=Option.some.inj hae
      rw [zH] at hck
      have hbk:=za (Hlx.out xk (List.mem_of_getElem? hxk.out))
      clear hbzc hbzf
      go_wp2_with fail
      refine (spec_l2Parse (s:=xk) (by have:=hbk.out;omega)).mono ?_
      rintro e w4 ⟨ed,ok3,rfl,hx4⟩
      have hacc4:=zhK.ext (hx4.alloc (.cells #[.int .i64 ed.fr,.int .i64 ed.le,.int .i64 ed.ta] 103))
      have bed:=Blk.new w4 103 #[.int .i64 ed.fr,.int .i64 ed.le,.int .i64 ed.ta]
      have hbz4:=hbz.ext (hx4.alloc (.cells #[.int .i64 ed.fr,.int .i64 ed.le,.int .i64 ed.ta] 103))
      clear hG
      cases ok3
      ·have hz4:=hbz4.cell
       have hzf:=hbz4.frozen
       go_wp2_with fail
       generalize w4.alloc (.cells #[.int .i64 ed.fr,.int .i64 ed.le,.int .i64 ed.ta] 103)=wq at *
       exact yU03a5
      ·have hG4:=hacc4.blk.cell
       go_wp2_with (at_builtin;refine wpList_push2 w3 (w4.alloc (.cells #[.int .i64 ed.fr,.int .i64 ed.le,.int .i64 ed.ta] 103)) rfl _ _ _ rfl 103 _ 3 24 Tryz.underlying37 zci rfl (by decide) v es.length (zB es) _ _ rfl (by first|rfl|simp [go_sem]) hacc4.fr.size hacc4.own rfl (by simp [Value.oneCell']) (by unfold maxLen;omega) (by omega) ?_;intro g cap w5 zhV hg5 hat5 hlt5;obtain⟨h1,h2,h3⟩:=hacc4.push (e:=ed) (W':=w5) zhV hg5 hat5;have h1':=h1.out)
       go_roundw
       case rel=>exact⟨k+1,_,_,by omega,by omega,by go_num,h3,by simp;omega⟩
       case measure=>simp [intOf];omega
     ·obtain rfl:m=k:=by omega
      obtain⟨A,n,c,rfl⟩:=zhK.form
      obtain⟨rfl,hsys⟩:=zhK.reads
      clear hbzc hbzf
      go_wp2_with fail
      refine (zeC (s:=⟨a,st,es⟩) hsys (by omega)).mono ?_
      rintro e w4 ⟨tx,rfl,htx,hx4⟩
      have hacc4:=zhK.ext hx4
      have hbz4:=hbz.ext hx4
      have hz4:=hbz4.cell
      have hzf:=hbz4.frozen
      have hG4:=hacc4.blk.cell
      cases hne:tx.toList==x.toList
      ·go_wp2_with fail
       exact yU03a5
      ·have hval:zr (⟨a,st,es⟩:Sys)=true:=by
        cases hv:zr (⟨a,st,es⟩:Sys)
        ·exfalso
         have h0:=htx hv
         have hxe:x.size=0:=str_empty (by simpa using hne) h0
         omega
        ·rfl
       have hgood:=valid_good hval
       have hcap:=zhh hacc4.own
       obtain⟨g1,g2,g3⟩:=hacc4.fin (Z:=w.heap.size) (Nat.le_refl _) (by omega) (.int .i64 a) (.int .i64 st) (.slice A es.length c)
       have Hfin:=za (show zgN R M 1001 w (.returned (.tuple #[.agg #[.int .i64 a,.int .i64 st,.slice A es.length c],.bool true])) _ from ⟨⟨a,st,es⟩,A,es.length,c,true,rfl,g1,⟨fun _=>hgood,hgood.fair⟩,by omega,g2,g3⟩)
       clear g1 g2 g3 hgood hval
       go_wp2_with fail
       exact bodyPost_ret (v:=.tuple #[.agg #[.int .i64 a,.int .i64 st,.slice A es.length c],.bool true]) (by simp [results,Tryz.results71,go_sem,hz4]) rfl Hfin.out
def zgp:Value→ByteArray
 |.string s=>s
 |_=>⟨#[]⟩
def RetTexts (L:Nat) (w:World) (e:Ending) (w':World):Prop:=∃ (A:Option Addr) (n c:Nat) (l:List ByteArray),e=.returned (.slice A n c)∧0<n∧w'.ownsRow w.heap.size 9 1 (.slice A n c) n (zF l)∧(∀ x∈l,x.size≤L)∧Ext w w'
theorem zaF (w:World) {us:Array Value} {n:Nat}(hu:zF (us.toList.map zgp)=us.toList)(hn:us.size=n)(h:n≤1000):(w.alloc (.cells us 9)).ownsRow w.heap.size 9 1 (.slice (some ⟨w.heap.size,0,none⟩) n n) n (zF (us.toList.map zgp)):=by
 rw [hu]
 exact World.ownsRow_lit w us n (Nat.le_refl _) (by unfold maxLen;omega) (by simpa using hn)
theorem spec_l2Texts {w:World}:Calls Tryz.prog 160 #[] w (RetTexts 100 w):=by
 go_enter Tryz.func160,Tryz.ntmps160
 go_wp2
 go_ret
 exact⟨_,_,_,_,rfl,by decide,zaF w rfl rfl (by omega),by decide +kernel,(Ext.refl _).alloc _⟩
theorem reads_ints {w w':World} {us:Array Value} {n:Nat} {e:TypeId} (l:List Int)(hu:us.toList=ints l)(hn:us.size=n)(hx:Ext (w.alloc (.cells us e)) w')(h63:n≤1000):Reads w' w.heap.size (w.heap.size+1) 1 (some ⟨w.heap.size,0,none⟩) n (ints l):=
 ⟨by rw [← hu];simpa using hn,by omega,fun _=>⟨_,rfl,Nat.le_refl _,by simp,fun j u hj=>by
  have:=(zav hx).cell j
  rw [zH,Nat.zero_add,this]
  rw [← hu] at hj
  simpa using hj⟩⟩
theorem zaR {R M:Nat} {w:World} (l:List Int) (n:Nat) (us:Array Value)(hu:us.toList=ints l)(hn:us.size=n)(h0:0<n)(h63:n≤1000)(h:Rd w R M)(hM:M≤1000000000) :
  Calls Tryz.prog 128 #[.pointer (some ⟨R,0,none⟩),.slice (some ⟨w.heap.size,0,none⟩) n n] (w.alloc (.cells us 3)) (RetNum R M l (w.alloc (.cells us 3))):=
 l19Rd_num (h.ext ((Ext.refl _).alloc _)) hM (reads_ints l hu hn (Ext.refl _) h63) h.lt h0
theorem zfj {R M L n c Z:Nat} {A:Option Addr} {s:Sys} {w W:World} {cs:Array Value}(hs:zbd W R A n s)(hg:Good s)(hn:n≤L∧n≤c)(hr:Rd W R M)(hd:Dr R w W)(hB:Blk W Z 39 cs)(hR:R<w.heap.size)(hZ:w.heap.size≤Z) :
  RetG R M L w (.returned (.agg #[.int .i64 s.al,.int .i64 s.st,.slice A n c])) (((W.setCell ⟨Z,0,none⟩ (.int .i64 s.al)).setCell ⟨Z,1,none⟩ (.int .i64 s.st)).setCell ⟨Z,2,none⟩ (.slice A n c)):=by
 have hf:=zef W Z (.int .i64 s.al) (.int .i64 s.st) (.slice A n c)
 exact⟨s,A,n,c,rfl,hs.far hB (by decide) hf,hg,hn,hr.frm hf (fun k h1 h2=>by omega),((hd.setNew (p:=⟨Z,0,none⟩) hZ _).setNew (p:=⟨Z,1,none⟩) hZ _).setNew (p:=⟨Z,2,none⟩) hZ _⟩
theorem yU03a1 {P:Prop}(h:P:=by
 go_wp2_with fail
 refine (zaR [3,2,4,1,5] 5 #[.int .i64 3,.int .i64 2,.int .i64 4,.int .i64 1,.int .i64 5] rfl rfl (by omega) (by omega) hr6 (by omega)).mono ?_
 rintro e w7 ⟨st,hst,rfl,hr7,hd7⟩
 have hw7:=(hw6.ext ((Ext.refl _).alloc _)).trans hd7
 have bz7:=(bz6.ext ((Ext.refl _).alloc _)).dr hd7 (by omega)
 go_wp2_with fail
 refine (zaR [3,2,4,6] 4 #[.int .i64 3,.int .i64 2,.int .i64 4,.int .i64 6] rfl rfl (by omega) (by omega) hr7 (by omega)).mono ?_
 rintro e w8 ⟨fw,_,rfl,hr8,hd8⟩
 have hw8:=(hw7.ext ((Ext.refl _).alloc _)).trans hd8
 have bz8:=(bz7.ext ((Ext.refl _).alloc _)).dr hd8 (by omega)
 obtain⟨a,rfl,ha⟩:∃ a:Nat,al=a∧a<64:=⟨al.toNat,by simp at hal;omega,by simp at hal;omega⟩
 obtain⟨p,rfl,hp1,hp⟩:∃ p:Nat,st=p∧1≤p∧p≤16:=⟨st.toNat,by simp at hst;omega,by simp at hst;omega,by simp at hst;omega⟩
 clear hal hst
 go_wp2_with fail
 refine (zcD hr8 (by omega) ha hp1 hp).mono ?_
 rintro e w9 ⟨s9,A9,n9,c9,rfl,hs9,hg9,hn9,hr9,hd9⟩
 have bz9:=bz8.dr hd9 (by omega)
 have hfin9:=za (zfj (R:=R) (M:=M+30000) (L:=20000) (c:=c9) hs9 hg9 hn9 (hr9.more (by omega)) (hw8.trans hd9) bz9 hRl (Nat.le_refl _))
 have cz9:=bz9.cell
 have fz9:=bz9.frozen
 go_wp2_with fail
 exact bodyPost_ret (v:=.agg #[.int .i64 s9.al,.int .i64 s9.st,.slice A9 n9 c9]) (by simp [results,Tryz.results118,go_sem,cz9]) rfl hfin9.out
 ):P:=h
theorem zfP {R M:Nat} {w:World}(h:Rd w R M)(hM:M≤800000000) :
  Calls Tryz.prog 118 #[.pointer (some ⟨R,0,none⟩)] w (RetG R (M+30000) 20000 w):=by
 have hRl:=h.lt
 have hx0:=(Ext.refl w).alloc (.cells #[.int .i64 0,.int .i64 0,.slice none 0 0] 39)
 have bz:=Blk.new w 39 #[.int .i64 0,.int .i64 0,.slice none 0 0]
 go_enter Tryz.func118,Tryz.ntmps118
 go_wp2_with fail
 refine (zv (h.ext hx0) (by omega)).mono ?_
 rintro e w1 ⟨y,rfl,_,_,hr1,hd1⟩
 have hw1:=hx0.dr.trans hd1
 have bz1:=bz.dr hd1 (by omega)
 have hz1:=bz1.lt
 clear bz
 by_cases hy:y=0
 ·subst hy
  go_wp2_with fail
  refine (spec_l2Texts).mono ?_
  rintro e w2 ⟨A,n,c,l,rfl,hn,zhJ,hl,hx2⟩
  go_wp2_with fail
  refine (zhd (hr1.ext hx2) (by omega) (Reads.of_own zhJ) (by omega) hn).mono ?_
  rintro e w3 ⟨x,hx,rfl,hr3,hd3⟩
  have hxs:=hl x hx
  go_wp2_with fail
  refine (zbE hr3 (by omega)).mono ?_
  rintro e w4 ⟨s,B,m,d,ok,rfl,hs,⟨hg,-⟩,hm,hr4,hd4⟩
  have hw4:Dr R w w4:=((hw1.ext hx2).trans hd3).trans hd4
  have bz4:=((bz1.ext hx2).dr hd3 (by omega)).dr hd4 (by omega)
  have hx5:=(Ext.refl w4).alloc (.cells #[.int .i64 s.al,.int .i64 s.st,.slice B m d] 39)
  have b5:=Blk.new w4 39 #[.int .i64 s.al,.int .i64 s.st,.slice B m d]
  cases ok
  ·have hr5:=hr4.ext hx5
   have hw5:=hw4.ext hx5
   have bz5:=bz4.ext hx5
   clear b5 hx5 hs hg
   go_wp2_with fail
   have C6:=(zaR [3,6,7,5,1,0,12] 7 #[.int .i64 3,.int .i64 6,.int .i64 7,.int .i64 5,.int .i64 1,.int .i64 0,.int .i64 12] rfl rfl (by omega) (by omega) hr5 (by omega))
   simp only [World.size_alloc] at C6
   refine C6.mono ?_
   rintro e w6 ⟨al,hal,rfl,hr6,hd6⟩
   have hw6:=(hw5.ext ((Ext.refl _).alloc _)).trans hd6
   have bz6:=(bz5.ext ((Ext.refl _).alloc _)).dr hd6 (by omega)
   exact yU03a1
  ·have hgood:=hg rfl
   have c5:=b5.cell
   have b45:=bz4.ext hx5
   have c45:=b45.cell
   have f45:=b45.frozen
   go_wp2_with fail
   generalize w4.alloc (.cells #[.int .i64 s.al,.int .i64 s.st,.slice B m d] 39)=w5 at *
   have zhM:=zfj (R:=R) (M:=M+30000) (L:=20000) (c:=d) (hs.ext hx5) hgood (by omega) ((hr4.more (by omega)).ext hx5) (hw4.ext hx5) b45 hRl (Nat.le_refl _)
   exact bodyPost_ret (v:=.agg #[.int .i64 s.al,.int .i64 s.st,.slice B m d]) (by simp [results,Tryz.results118,go_sem,c45]) rfl zhM
 ·have hy':((y:Int)==0)=false:=(by rw [beq_eq_false_iff_ne];omega)
  go_wp2_with fail
  refine (zaR [3,6,7,5,1,0,12] 7 #[.int .i64 3,.int .i64 6,.int .i64 7,.int .i64 5,.int .i64 1,.int .i64 0,.int .i64 12] rfl rfl (by omega) (by omega) hr1 (by omega)).mono ?_
  rintro e w6 ⟨al,hal,rfl,hr6,hd6⟩
  have hw6:=(hw1.ext ((Ext.refl _).alloc _)).trans hd6
  have bz6:=(bz1.ext ((Ext.refl _).alloc _)).dr hd6 (by omega)
  exact yU03a1
def zeT (b:Aut):Prop:=∃ a p:Nat,a<64∧1≤p∧p≤16∧shA a p (letters a 6).length b
theorem zeU.mono {R M N:Nat} {sh sh':Aut→Prop} {w w0 w':World} {e:Ending}(h:zeU R M sh w e w')(hd:Dr R w0 w)(hM:M≤N)(hs:∀ b,sh b→sh' b):zeU R N sh' w0 e w':=by
 obtain⟨b,A,n,c,A',n',c',he,ho,hsh,hr,hd'⟩:=h
 exact⟨b,A,n,c,A',n',c',he,ho.less hd.size,za (hs b hsh.out),hr.more hM,hd.trans hd'⟩
theorem zgQ {R M N Z n c n' c':Nat} {A A':Option Addr} {b:Aut} {sh:Aut→Prop} {w w0 W:World} {cs:Array Value} {t:TypeId}(hx:Ext w w0)(ho:zO W w0.heap.size A n c A' n' c' b)(hsh:sh b)(hr:Rd W R M)(hd:Dr R w0 W) (bz:Blk w0 Z t cs)(hc:cs.size=3)(hR:R<w.heap.size)(hZ:w.heap.size≤Z)(hM:M≤N) :
  Hid (zeU R N sh w (.returned (.agg #[.int .i64 b.al,.slice A n c,.slice A' n' c'])) (((W.setCell ⟨Z,0,none⟩ (.int .i64 b.al)).setCell ⟨Z,1,none⟩ (.slice A n c)).setCell ⟨Z,2,none⟩ (.slice A' n' c'))) ∧
  Blk (((W.setCell ⟨Z,0,none⟩ (.int .i64 b.al)).setCell ⟨Z,1,none⟩ (.slice A n c)).setCell ⟨Z,2,none⟩ (.slice A' n' c')) Z t #[.int .i64 b.al,.slice A n c,.slice A' n' c']:=by
 have hz:=bz.lt
 have hf:=zaj W Z (.int .i64 b.al) (.slice A n c) (.slice A' n' c')
 refine⟨za ⟨b,A,n,c,A',n',c',rfl,(ho.keep hf (fun b h1 e=>by omega)).less hx.size,za hsh,(hr.more hM).frm hf (fun k hk e=>by omega),?_⟩,zL (bz.dr hd (by omega)) hc _ _ _⟩
 exact (((hx.dr.trans hd).setNew (p:=⟨Z,0,none⟩) hZ _).setNew (p:=⟨Z,1,none⟩) hZ _).setNew (p:=⟨Z,2,none⟩) hZ _
theorem spec_l1Some {R M:Nat} {w:World}(h:Rd w R M)(hM:M≤900000000) :
  Calls Tryz.prog 161 #[.pointer (some ⟨R,0,none⟩)] w (fun e w'=>∃ x:Nat,x<64∧e=.returned (.int .i64 x)∧Rd w' R (M+1)∧Dr R w w'):=by
 go_enter Tryz.func161,Tryz.ntmps161
 go_wp2_with fail
 refine (zaR [3,7,1,5,0,6,63,2,21] 9 #[.int .i64 3,.int .i64 7,.int .i64 1,.int .i64 5,.int .i64 0,.int .i64 6,.int .i64 63,.int .i64 2,.int .i64 21] rfl rfl (by omega) (by omega) h (by omega)).mono ?_
 rintro e w1 ⟨x,hx,rfl,hr1,hd1⟩
 obtain⟨y,hy,rfl⟩:∃ y:Nat,y<64∧x=(y:Int):=⟨x.toNat,by simp at hx;omega,by simp at hx;omega⟩
 clear hx
 go_wp2_with fail
 go_ret
 exact⟨y,hy,rfl,hr1,((Dr.refl R w).alloc _).trans hd1⟩
theorem yU03a3 {P:Prop}(h:P:=by
 intro e w4 hret
 obtain⟨b,A,n,c,A',n',c',rfl,zhJ,hsh,hr4,hd4⟩:=hret.mono (N:=M+500) (sh':=zeT) hd13 (by omega) (fun b hb=>⟨a,p,ha,hp1,by omega,hb⟩)
 obtain⟨f1,f2⟩:=zgQ (N:=M+500) (sh:=zeT) hxz zhJ hsh.out hr4 hd4 bz rfl hRl (Nat.le_refl _) (Nat.le_refl _)
 have bz5:=bz.dr hd4 (by omega)
 have cZ:=bz5.cell
 have fZ:=bz5.frozen
 go_wp2_with fail
 have cf:=f2.cell
 exact bodyPost_ret (v:=.agg #[.int .i64 b.al,.slice A n c,.slice A' n' c']) (by simp [results,Tryz.results75,go_sem,cf]) rfl f1.out
 ):P:=h
theorem zfQ {R M a:Nat} {w:World}(h:Rd w R M)(hM:M≤800000000)(ha:a<64) :
  Calls Tryz.prog 75 #[.pointer (some ⟨R,0,none⟩),.int .i64 a] w (zeU R (M+500) zeT w):=by
 have hRl:=h.lt
 go_enter Tryz.func75,Tryz.ntmps75
 have hxz:=(Ext.refl w).alloc (.cells #[.int .i64 0,.slice none 0 0,.slice none 0 0] 26)
 have bz:=Blk.new w 26 #[.int .i64 0,.slice none 0 0,.slice none 0 0]
 go_wp2_with fail
 generalize w.alloc (.cells #[.int .i64 0,.slice none 0 0,.slice none 0 0] 26)=w1 at *
 refine (zv (h.ext hxz) (by omega)).mono ?_
 rintro e w2 ⟨y,rfl,-,-,hr2,hd2⟩
 by_cases hy:y=0
 ·subst hy
  go_wp2_with fail
  refine (zaR [3,2,4,1] 4 #[.int .i64 3,.int .i64 2,.int .i64 4,.int .i64 1] rfl rfl (by omega) (by omega) hr2 (by omega)).mono ?_
  rintro e w3 ⟨x,hx,rfl,hr3,hd3⟩
  obtain⟨p,hp1,hp2,rfl⟩:∃ y:Nat,1≤y∧y≤4∧x=(y:Int):=⟨x.toNat,by simp at hx;omega,by simp at hx;omega,by simp at hx;omega⟩
  clear hx
  have hd13:=(hd2.alloc _).trans hd3
  go_wp2_with fail
  refine (zfR hr3 (by omega) ha hp1 (by omega)).mono ?_
  exact yU03a3
 ·have hy':((y:Int)==0)=false:=by simp;omega
  go_wp2_with fail
  refine (zaR [2,3,1,4,5] 5 #[.int .i64 2,.int .i64 3,.int .i64 1,.int .i64 4,.int .i64 5] rfl rfl (by omega) (by omega) hr2 (by omega)).mono ?_
  rintro e w3 ⟨x,hx,rfl,hr3,hd3⟩
  obtain⟨p,hp1,hp2,rfl⟩:∃ y:Nat,1≤y∧y≤5∧x=(y:Int):=⟨x.toNat,by simp at hx;omega,by simp at hx;omega,by simp at hx;omega⟩
  clear hx
  have hd13:=(hd2.alloc _).trans hd3
  go_wp2_with fail
  refine (zep hr3 (by omega) ha (by omega)).mono ?_
  exact yU03a3
section
variable {w0 W W':World} {R G M N:Nat} {al:Int} {v vA:Value} {rows:List Value} {ls:List (List Int)} {acc:List Bool}
theorem zaW.setAl (h:zaW w0 W R G M al v rows ls vA acc) (x:Int):zaW w0 (W.setCell ⟨G,0,none⟩ (.int .i64 x)) R G M x v rows ls vA acc:=by
 have hRG:=h.hR;have hGG:=h.hG
 have hf:=Frm.setCell W G 0 (.int .i64 x)
 refine⟨by simpa using h.blk.set_ 0 _,zd h.nx hf (fun b hb hS=>zk h.nx h.blk (by decide) hb hS),h.rows.frm hf (fun i r b hr hb hS=>?_),zd h.acc hf (fun b hb hS=>zk h.acc h.blk (by decide) hb hS),h.rd.frm hf (fun k hk e=>by omega),h.dr.setNew (p:=⟨G,0,none⟩) hGG _,hRG,hGG⟩
 obtain⟨l',_,ho⟩:=h.rows.row hr
 exact zk ho h.blk (by decide) hb hS
theorem zaW.setNext (h:zaW w0 W R G M al v rows ls vA acc) {v':Value}(ho:W.ownsRow w0.heap.size 74 1 v' 0 []):zaW w0 (W.setCell ⟨G,1,none⟩ v') R G M al v' [] [] vA acc:=by
 have hRG:=h.hR;have hGG:=h.hG
 have hf:=Frm.setCell W G 1 v'
 exact⟨by simpa using h.blk.set_ 1 _,zd ho hf (fun b hb hS=>zk ho h.blk (by decide) hb hS),zy.nil _ _,zd h.acc hf (fun b hb hS=>zk h.acc h.blk (by decide) hb hS),h.rd.frm hf (fun k hk e=>by omega),h.dr.setNew (p:=⟨G,1,none⟩) hGG _,hRG,hGG⟩
theorem zaW.setMarks (h:zaW w0 W R G M al v rows ls vA acc) {v':Value}(ho:W.ownsRow w0.heap.size 4 1 v' 0 []):zaW w0 (W.setCell ⟨G,2,none⟩ v') R G M al v rows ls v' []:=by
 have hRG:=h.hR;have hGG:=h.hG
 have hf:=Frm.setCell W G 2 v'
 refine⟨by simpa using h.blk.set_ 2 _,zd h.nx hf (fun b hb hS=>zk h.nx h.blk (by decide) hb hS),h.rows.frm hf (fun i r b hr hb hS=>?_),zd ho hf (fun b hb hS=>zk ho h.blk (by decide) hb hS),h.rd.frm hf (fun k hk e=>by omega),h.dr.setNew (p:=⟨G,2,none⟩) hGG _,hRG,hGG⟩
 obtain⟨l',_,ho⟩:=h.rows.row hr
 exact zk ho h.blk (by decide) hb hS
theorem zaW.growRow {i:Nat} {row:Value} {l:List Int} {x:Int} {g cap gN cN nN:Nat}(h:zaW w0 W R G M al (.slice (some ⟨gN,0,none⟩) nN cN) rows ls vA acc)(hn:nN=ls.length)(hr:rows[i]?=some row)(hl:ls[i]?=some l)
  (zhJ:W'.ownsRow w0.heap.size 3 1 (.slice (some ⟨g,0,none⟩) (l.length+1) cap) (l.length+1) (ints l++[.int .i64 x])) (hg:W.grownBy W' row.ownBlock) (hat:row.ownBlock=some g∨g=W.heap.size+1) :
  (∀ u,W.cell? ⟨G,u,none⟩=W'.cell? ⟨G,u,none⟩)∧Hid (W'.cell? ⟨gN,i,none⟩=some row)∧W'.frozen? ⟨gN,i,none⟩=false ∧
  zaW w0 (W'.setCell ⟨gN,i,none⟩ (.slice (some ⟨g,0,none⟩) (l.length+1) cap)) R G M al (.slice (some ⟨gN,0,none⟩) nN cN) (rows.set i (.slice (some ⟨g,0,none⟩) (l.length+1) cap)) (ls.set i (l++[x])) vA acc:=by
 subst hn
 have hRG:=h.hR;have hGG:=h.hG
 have hi:i<ls.length:=(List.getElem?_eq_some_iff.1 hl).1
 have ho:=h.rows.2.1 i _ l hr hl
 have hfr:Frm (fun k=>row.ownBlock=some k) W W':=Frm.of_grown hg
 obtain⟨hdr,hrd⟩:=h.grown ho hg
 have hB:Blk W' G 26 #[.int .i64 al,.slice (some ⟨gN,0,none⟩) ls.length cN,vA]:=h.blk.frm hfr (fun e=>zk ho h.blk (by decide) e rfl)
 have hnx:W'.ownsRow w0.heap.size 74 1 (.slice (some ⟨gN,0,none⟩) ls.length cN) ls.length rows:=zd h.nx hfr (fun b hb hS=>zaq h.nx ho (by decide) hb hS)
 have zhK:W'.ownsRow w0.heap.size 4 1 vA acc.length (zas acc):=zd h.acc hfr (fun b hb hS=>zaq h.acc ho (by decide) hb hS)
 have hgN:=(hnx.lt gN rfl).1
 have hlen:=h.rows.1
 have fresh:∀ (j:Nat) (r:Value) (b:Nat),j≠i→rows[j]?=some r→r.ownBlock=some b→b≠g:=fun j r b hji hj hb e=>by
  subst e
  rcases hat with h1|h1
  ·exact h.rows.2.2 j i r row b hj hr hji hb h1
  ·have:=h.low j r b hj hb
   omega
 have hrows:zy W' w0.heap.size (rows.set i (.slice (some ⟨g,0,none⟩) (l.length+1) cap)) (ls.set i (l++[x])):=by
  refine⟨by simp [hlen],fun j r m hj hm=>?_,fun j j' r r' b hj hj' hne hb=>?_⟩
  ·by_cases hji:i=j
   ·subst hji
    rw [List.getElem?_set_self (by omega)] at hj
    rw [List.getElem?_set_self hi] at hm
    obtain rfl:=Option.some.inj hj
    obtain rfl:=Option.some.inj hm
    simpa [ints] using zhJ
   ·rw [List.getElem?_set_ne hji] at hj hm
    exact zd (h.rows.2.1 j r m hj hm) hfr (fun b hb hS=>h.rows.2.2 j i r row b hj hr (fun e=>hji e.symm) hb hS)
  ·by_cases hji:i=j
   ·subst hji
    rw [List.getElem?_set_self (by omega)] at hj
    obtain rfl:=Option.some.inj hj
    rw [List.getElem?_set_ne hne] at hj'
    have hbg:g=b:=by simpa [Value.ownBlock] using hb
    subst hbg
    exact fun hc=>fresh j' r' _ (fun e=>hne e.symm) hj' hc rfl
   ·rw [List.getElem?_set_ne hji] at hj
    by_cases hji':i=j'
    ·subst hji'
     rw [List.getElem?_set_self (by omega)] at hj'
     obtain rfl:=Option.some.inj hj'
     intro hc
     have hbg:g=b:=by simpa [Value.ownBlock] using hc
     exact fresh j r b (fun e=>hji e.symm) hj hb hbg.symm
    ·rw [List.getElem?_set_ne hji'] at hj'
     exact h.rows.2.2 j j' r r' b hj hj' hne hb
 have hset:=Frm.setCell W' gN i (.slice (some ⟨g,0,none⟩) (l.length+1) cap)
 refine⟨fun u=>by rw [h.blk.cell,hB.cell],za (by rw [hnx.cellAt i (by omega),hr]),hnx.frozenAt i,⟨hB.frm hset (fun e=>zk hnx hB (by decide) rfl e.symm),?_,?_,zd zhK hset (fun b hb hS=>?_),hrd.frm hset (fun k hk e=>by omega),hdr.setNew (p:=⟨gN,i,none⟩) hgN _,hRG,hGG⟩⟩
 ·rw [List.length_set]
  exact (hnx.stored i _).1
 ·refine hrows.frm hset (fun j r b hj hb hS=>?_)
  obtain⟨l',_,ho'⟩:=hrows.row hj
  subst hS
  exact zaq ho' hnx (by decide) hb rfl
 ·subst hS
  exact zaq zhK hnx (by decide) hb rfl
end
def BdL (L:Nat) (ls:List (List Int)) (acc:List Bool):Prop:=ls.length≤L∧acc.length≤L∧∀ l∈ls,l.length≤L
theorem BdL.more {L K:Nat} {ls:List (List Int)} {acc:List Bool}(h:BdL L ls acc)(hK:L≤K):BdL K ls acc:=⟨Nat.le_trans h.1 hK,Nat.le_trans h.2.1 hK,fun l hl=>Nat.le_trans (h.2.2 l hl) hK⟩
def BdA (L:Nat) (b:Aut):Prop:=BdL L b.next b.acc
theorem BdA.of {b:Aut}(h:zeT b):BdA 16 b:=by
 obtain⟨a,p,ha,hp1,hp,h1,h2,h3,h4⟩:=h
 exact⟨by omega,by omega,fun l hl=>by have:=h4 l hl;have:=zq a 6;omega⟩
theorem tot_le {L:Nat}:∀ ls:List (List Int),(∀ l∈ls,l.length≤L)→tot ls≤ls.length*L
 |[],_=>by simp [tot]
 |l :: r,h=>by
  have:=tot_le r (fun x hx=>h x (by simp [hx]))
  have:=h l (by simp)
  rw [tot_cons,List.length_cons,Nat.add_mul]
  omega
theorem BdA.size {L:Nat} {b:Aut}(h:BdA L b)(hL:L≤200):b.size≤1048576:=by
 have h1:=tot_le b.next h.2.2
 have h2:b.next.length*L≤200*200:=Nat.mul_le_mul (Nat.le_trans h.1 hL) hL
 have h3:=h.1;have h4:=h.2.1
 unfold Aut.size
 omega
theorem yU03a2 {P:Prop}(h:P:=by
 intro vA w4 hownA hgA hatA
 rw [Nat.zero_add,List.nil_append] at hownA
 obtain⟨BA,dA,rfl⟩:=zf hownA
 have hxA:Ext w2 w4:=hx0.grown hgA (fun k hk=>(hm.lt k hk).1)
 have hb:Blk w4 G 26 #[.int .i64 0,.slice none 0 0,.slice none 0 0]:=(hgA.block G hb.lt (fun e=>zk hm hb (by decide) e.symm rfl)).trans hb
 replace hx0:=hxA
 refine hK.out _ _ hx0 ?_
 refine pT ?_
 refine uQ ?_
 have cG:=hb.cell
 have fG:=hb.frozen
 refine zg fun K hK=>?_
 go_simp
 refine hK.out _ _ ?_
 refine zj ?_
 have zhM:Gra w2 (((w4.setCell ⟨G,0,none⟩ (.int .i64 a.al)).setCell ⟨G,1,none⟩ (.slice none 0 0)).setCell ⟨G,2,none⟩ (.slice BA n' dA)) G a.al (.slice none 0 0) [] (.slice BA n' dA) a.acc:=⟨zL hb rfl _ _ _,⟨[],World.ownsRow_nil _ _ _ _,zy.nil _ _⟩,by
  rw [← hL'.out]
  exact zd hownA (zaj w4 G _ _ _) (fun b hv hS=>zk hownA hb (by decide) hv hS),hx0.frm (zaj w4 G _ _ _) (fun k hk e=>by omega),hG⟩
 go_wp2_with fail
 go_meet
 exact⟨G,_,rfl,zhM⟩
 ):P:=h
theorem zZ {lo hi:Nat} {A:Option Addr} {n c:Nat} {A':Option Addr} {n' c':Nat} {a:Aut} {w:World}(h:zM w lo hi A n A' n' a)(hs:a.size≤1048576) :
  Calls Tryz.prog 124 #[.agg #[.int .i64 a.al,.slice A n c,.slice A' n' c']] w (RetAut w a):=by
 have h1:n≤1048576:=by have:=h.n1;unfold Aut.size at hs;omega
 have h2:n'≤1048576:=by have:=h.n2;unfold Aut.size at hs;omega
 have hrow:∀ (k:Nat) (l:List Int),a.next[k]?=some l→l.length≤1048576:=fun k l hl=>by
  have h1:=zhF hl
  have h2:=tot_take_le a.next (k+1)
  unfold Aut.size at hs
  omega
 have Hrow:=za hrow
 have hL:=za h.n1
 have hL':=za h.n2
 have HS:=za (fun W (hW:Ext w W)=>h.1.ext hW)
 have HA:=za (fun W (hW:Ext w W)=>h.2.2.ext hW)
 have hlen:=h.1.len
 clear hrow h hs
 go_enter Tryz.func124,Tryz.ntmps124
 obtain⟨b1,bz⟩:=zR (Ext.refl ((w.alloc (.cells #[.int .i64 a.al,.slice A n c,.slice A' n' c'] 26)).alloc (.cells #[.int .i64 0,.slice none 0 0,.slice none 0 0] 26)))
 have hw2:Ext w ((w.alloc (.cells #[.int .i64 a.al,.slice A n c,.slice A' n' c'] 26)).alloc (.cells #[.int .i64 0,.slice none 0 0,.slice none 0 0] 26)):=((Ext.refl w).alloc _).alloc _
 have hsz2:w.heap.size+2=((w.alloc (.cells #[.int .i64 a.al,.slice A n c,.slice A' n' c'] 26)).alloc (.cells #[.int .i64 0,.slice none 0 0,.slice none 0 0] 26)).heap.size:=by simp
 go_upto_region 1 with fail
 generalize (w.alloc (.cells #[.int .i64 a.al,.slice A n c,.slice A' n' c'] 26)).alloc (.cells #[.int .i64 0,.slice none 0 0,.slice none 0 0] 26)=w2 at *
 go_cut [3] (fun v wx=>∃ (G:Nat) (vA:Value),v=.pointer (some ⟨G,0,none⟩)∧Gra w2 wx G a.al (.slice none 0 0) [] vA a.acc)
 case first =>
  have c1:=fun W (hW:Ext w2 W)=>(b1.ext hW).cell
  have hww:=Ext.refl w2
  refine uR (fun X=>Ext w2 X) [8] (zK.app [0,1,3,4] (zK.two 2 (zK.two 5 (zK.of [6,7,8]) 7 (zK.of [5,6,8])) 7 (zK.of [2,5,6,8]))) ?_
  refine uQ ?_
  have hx0:Ext w2 w2.drew:=hww.drew
  generalize w2.drew=wd at *
  refine zD (fun K hK=>?_) (fun K hK=>?_)
  ·go_simp
   have hm:=World.ownsRow_made (base:=w2.heap.size) (e:=4) (size:=1) wd #[] 0 hx0.size (Nat.zero_le _) rfl
   have hx1:=(Ext.refl wd).alloc (.cells #[] 4)
   replace hx0:=hx0.trans hx1
   refine hK.out _ _ hx0 ?_
   generalize wd.alloc (.cells #[] 4)=wm at *
   generalize wd.heap.size=M at *
   refine pT ?_
   refine uQ ?_
   clear hK
   refine zD (fun K hK=>?_) (fun K hK=>?_)
   ·skip
    refine zo wm _ _ 24 rfl w2.heap.size 4 _ 1 1 Tryz.underlying24 zaG rfl (by decide) (.slice (some ⟨M,0,none⟩) 0 0) 0 [] rfl hm _ _ A' n' c' (zas a.acc) rfl (HA.out _ (hw2.trans hx0)) (zfr _) (by unfold maxLen;omega) (by omega) hx0.size ?_
    intro vA w4 hownA hgA hatA
    rw [Nat.zero_add,List.nil_append] at hownA
    obtain⟨BA,dA,rfl⟩:=zf hownA
    have hxA:Ext w2 w4:=hx0.grown hgA (fun k hk=>(hm.lt k hk).1)
    replace hx0:=hxA
    refine hK.out _ _ hx0 ?_
    refine pT ?_
    refine uQ ?_
    refine zb fun K hK=>?_;go_simp
    have hx1:=(Ext.refl w4).alloc (.cells #[.int .i64 0,.slice none 0 0,.slice none 0 0] 26)
    have hb:=Blk.new w4 26 #[.int .i64 0,.slice none 0 0,.slice none 0 0]
    have hG:=hx0.size
    replace hownA:=ze hownA hx1
    replace hx0:=hx0.trans hx1
    refine hK.out _ _ hx0 ?_
    generalize w4.alloc (.cells #[.int .i64 0,.slice none 0 0,.slice none 0 0] 26)=wg at *
    generalize w4.heap.size=G at *
    refine pT ?_
    refine uQ ?_
    have cG:=hb.cell
    have fG:=hb.frozen
    refine zg fun K hK=>?_
    go_simp
    refine hK.out _ _ ?_
    refine zj ?_
    have zhM:Gra w2 (((wg.setCell ⟨G,0,none⟩ (.int .i64 a.al)).setCell ⟨G,1,none⟩ (.slice none 0 0)).setCell ⟨G,2,none⟩ (.slice BA n' dA)) G a.al (.slice none 0 0) [] (.slice BA n' dA) a.acc:=⟨zL hb rfl _ _ _,⟨[],World.ownsRow_nil _ _ _ _,zy.nil _ _⟩,by
     rw [← hL'.out]
     exact zd hownA (zaj wg G _ _ _) (fun b hv hS=>zk hownA hb (by decide) hv hS),hx0.frm (zaj wg G _ _ _) (fun k hk e=>by omega),hG⟩
    go_wp2_with fail
    go_meet
    exact⟨G,_,rfl,zhM⟩
   ·go_simp
    have hx1:=(Ext.refl wm).alloc (.cells #[.int .i64 0,.slice none 0 0,.slice none 0 0] 26)
    have hb:=Blk.new wm 26 #[.int .i64 0,.slice none 0 0,.slice none 0 0]
    have hG:=hx0.size
    replace hm:=ze hm hx1
    replace hx0:=hx0.trans hx1
    refine hK.out _ _ hx0 ?_
    generalize wm.alloc (.cells #[.int .i64 0,.slice none 0 0,.slice none 0 0] 26)=wg at *
    generalize wm.heap.size=G at *
    refine pT ?_
    refine uQ ?_
    refine zb (fun K hK=>?_)
    refine zo wg _ _ 24 rfl w2.heap.size 4 _ 1 1 Tryz.underlying24 zaG rfl (by decide) (.slice (some ⟨M,0,none⟩) 0 0) 0 [] rfl hm _ _ A' n' c' (zas a.acc) rfl (HA.out _ (hw2.trans hx0)) (zfr _) (by unfold maxLen;omega) (by omega) hx0.size ?_
    exact yU03a2
  ·go_simp
   have hx1:=(Ext.refl wd).alloc (.cells #[.int .i64 0,.slice none 0 0,.slice none 0 0] 26)
   have hb:=Blk.new wd 26 #[.int .i64 0,.slice none 0 0,.slice none 0 0]
   have hG:=hx0.size
   replace hx0:=hx0.trans hx1
   refine hK.out _ _ hx0 ?_
   generalize wd.alloc (.cells #[.int .i64 0,.slice none 0 0,.slice none 0 0] 26)=wg at *
   generalize wd.heap.size=G at *
   refine pT ?_
   refine uQ ?_
   refine zb fun K hK=>?_;go_simp
   have hm:=World.ownsRow_made (base:=w2.heap.size) (e:=4) (size:=1) wg #[] 0 hx0.size (Nat.zero_le _) rfl
   have hx1:=(Ext.refl wg).alloc (.cells #[] 4)
   replace hb:=hb.ext hx1
   replace hx0:=hx0.trans hx1
   refine hK.out _ _ hx0 ?_
   generalize wg.alloc (.cells #[] 4)=wm at *
   generalize wg.heap.size=M at *
   refine pT ?_
   refine uQ ?_
   refine zb (fun K hK=>?_)
   refine zo wm _ _ 24 rfl w2.heap.size 4 _ 1 1 Tryz.underlying24 zaG rfl (by decide) (.slice (some ⟨M,0,none⟩) 0 0) 0 [] rfl hm _ _ A' n' c' (zas a.acc) rfl (HA.out _ (hw2.trans hx0)) (zfr _) (by unfold maxLen;omega) (by omega) hx0.size ?_
   exact yU03a2
 case rest =>
  obtain⟨G,vA,rfl,hgr⟩:=hcut
  have k1:=(b1.ext hgr.ext).cell
  go_wp2_with fail
  go_loopw [4] (fun i wr=>∃ (k:Nat) (v:Value),k≤n∧i=.int .i64 k∧Gra w2 wr G a.al v (a.next.take k) vA a.acc) (fun i _=>n - (intOf i).toNat)
  case atStart=>exact⟨0,_,Nat.zero_le _,rfl,by simpa using hgr⟩
  case round =>
   clear hgr k1
   obtain⟨k,v,hk,rfl,hgr⟩:=hrel
   by_cases hlt:k<n
   ·obtain⟨ad,Ak,ck,l,rfl,_,_,hl,hc0,hrk⟩:=(HS.out wr (hw2.trans hgr.ext)).row hlt
    have hll:=Hrow.out k l hl.out
    have Htk:=za (show a.next.take (k+1)=a.next.take k++[l] by rw [List.take_add_one,hl.out];rfl)
    have htl:=za (show (a.next.take k).length=k by rw [List.length_take];have:=hL.out;omega)
    obtain⟨rows,hv,hrows⟩:=hgr.own
    have k1:=(b1.ext hgr.ext).cell
    go_upto_region 5 with fail
    clear k1
    have cG:∀ W,Ext wr W→∀ q,W.cell? ⟨G,q,none⟩=#[Value.int .i64 a.al,v,vA][q]?:=fun W hW=>(hgr.blk.ext hW).cell
    have hww:=Ext.refl wr
    have Hrk:=za (fun W (hW:Ext wr W)=>hrk.ext hW)
    have C1:∀ W,Ext wr W→∀ q,W.cell? ⟨w.heap.size,q,none⟩=#[Value.int .i64 a.al,.slice (some ad) n c,.slice A' n' c'][q]?:=fun W hW=>((b1.ext hgr.ext).ext hW).cell
    have Cr:∀ W,Ext wr W→W.cell? (ad.add k)=some (.slice Ak l.length ck):=fun W hW=>hW.cell_some hc0
    have hkn:(k:Int)<(n:Int):=by omega
    clear hc0 hrk
    refine uR (fun X=>Ext wr X) [10,12] (zK.of [0,1,3,4,5,6,7,2,8,9,10,11,12]) ?_
    refine uQ ?_
    have hx0:Ext wr wr.drew:=hww.drew
    generalize wr.drew=wd at *
    refine zb fun K hK=>?_;go_simp
    have hm:=World.ownsRow_made (base:=wr.heap.size) (e:=3) (size:=1) wd #[] 0 hx0.size (Nat.zero_le _) rfl
    have hx1:=(Ext.refl wd).alloc (.cells #[] 3)
    replace hx0:=hx0.trans hx1
    refine hK.out _ _ hx0 ?_
    generalize wd.alloc (.cells #[] 3)=wm at *
    generalize wd.heap.size=M at *
    refine pT ?_
    refine uQ ?_
    refine zb (fun K hK=>?_)
    refine zo wm _ _ 74 rfl wr.heap.size 3 _ 1 8 Tryz.underlying74 zac rfl (by decide) (.slice (some ⟨M,0,none⟩) 0 0) 0 [] rfl hm _ _ Ak l.length ck (ints l) rfl (Hrk.out _ hx0) (zhc _) (by unfold maxLen;omega) (by omega) hx0.size ?_
    intro vR w3 hrow hgR hatR
    rw [Nat.zero_add,List.nil_append] at hrow
    obtain⟨BR,dR,rfl⟩:=zf hrow
    have hww3:Ext wr w3:=hx0.grown hgR (fun k hk=>(hm.lt k hk).1)
    refine hK.out _ _ hww3 ?_
    refine pT ?_
    refine uQ ?_
    refine zb fun K hK=>?_;go_simp
    refine hK.out _ _ (hww3.alloc _) ?_
    refine pT ?_
    refine zg fun K hK=>?_
    refine zaC w2 w3 _ _ _ rfl 74 _ 1 24 Tryz.underlying23 zbj rfl (by decide) v (a.next.take k).length rows _ _ rfl rfl (hgr.ext.trans hww3).size (ze hv hww3) rfl (zat _ _ _) (by unfold maxLen;have:=htl.out;omega) (by have:=htl.out;omega) ?_
    intro g5 cap5 w5 zhV hg5 hat5 hlt5
    refine hK.out _ _ ?_
    refine pT ?_
    refine uQ ?_
    obtain⟨p1,p2,p3⟩:=hgr.push hrows hv hww3 hrow (W':=w5) zhV hg5 hat5
    have p1':=p1.out
    refine zg fun K hK=>?_
    go_simp
    refine hK.out _ _ ?_
    refine zj ?_
    go_wp2_with fail
    go_roundw
    case rel=>exact⟨k+1,_,by omega,by go_num,by rw [Htk.out];first|exact p3|simpa using p3⟩
    case measure=>simp [intOf];omega
   ·obtain rfl:n=k:=by omega
    obtain⟨A5,c5,rfl⟩:∃ A5 c5,v=.slice A5 n c5:=by
     obtain⟨rows,hv,_⟩:=hgr.own
     rw [List.take_of_length_le (by have:=hL.out;omega),← hL.out] at hv
     exact zf hv
    obtain⟨B5,d5,rfl⟩:=zf hgr.acc
    have k1:=(b1.ext hgr.ext).cell
    have cG:=hgr.blk.cell
    have hbz:=bz.ext hgr.ext
    have cZ:=hbz.cell
    have fZ:=hbz.frozen
    have hfl:=zaj wr (w.heap.size+1) (.int .i64 a.al) (.slice A5 n c5) (.slice B5 a.acc.length d5)
    have hbf:=zL hbz rfl (.int .i64 a.al) (.slice A5 n c5) (.slice B5 a.acc.length d5)
    have hxf:=(hw2.trans hgr.ext).frm hfl (fun k hk e=>by omega)
    have zhM:=za (show RetAut w a (.returned (.agg #[.int .i64 a.al,.slice A5 n c5,.slice B5 a.acc.length d5])) (((wr.setCell ⟨w.heap.size+1,0,none⟩ (.int .i64 a.al)).setCell ⟨w.heap.size+1,1,none⟩ (.slice A5 n c5)).setCell ⟨w.heap.size+1,2,none⟩ (.slice B5 a.acc.length d5)) from by
     refine⟨A5,n,c5,B5,a.acc.length,d5,rfl,⟨?_,hL.out,?_,rfl⟩,hxf⟩
     ·have ho:=hgr.own
      rw [List.take_of_length_le (by have:=hL.out;omega)] at ho
      exact (ho.keep hfl (fun b h1 e=>by omega)).less (by omega)
     ·exact zl (zaN hgr.acc hfl (fun b h1 e=>by omega)) (by omega))
    go_wp2_with fail
    generalize ((wr.setCell ⟨w.heap.size+1,0,none⟩ (.int .i64 a.al)).setCell ⟨w.heap.size+1,1,none⟩ (.slice A5 n c5)).setCell ⟨w.heap.size+1,2,none⟩ (.slice B5 a.acc.length d5)=wf at *
    have cf:=hbf.cell
    exact bodyPost_ret (v:=.agg #[.int .i64 a.al,.slice A5 n c5,.slice B5 a.acc.length d5]) (by simp [results,Tryz.results124,go_sem,cf]) rfl zhM.out
theorem eq_edge (a b c d e f:Int) (w:World):(Op.equalIn 10000 103 (.agg #[.int .i64 a,.int .i64 b,.int .i64 c]) (.agg #[.int .i64 d,.int .i64 e,.int .i64 f])).run Tryz.prog w=.ok (a==d&&(b==e&&c==f)) w:=by
 have u3:=Tryz.underlying3
 have a3:=Tryz.isAgg3
 have z3:=Tryz.sizeOf3
 have hS:Tryz.prog.underlying 103=some (.struct (Tryz.prog.fieldsOf 103)):=by kernel_rfl
 have hp:Tryz.prog.stoodInHeld 103=false:=by kernel_rfl
 rw [show (10000:Nat)=9999+1 from rfl,run_equalIn_agg w 9999 103 _ _ hS hp]
 simp only [Program.fieldsOf,Tryz.underlying103]
 go_simp
 by_cases h1:a=d<;>by_cases h2:b=e<;>by_cases h3:c=f<;>simp [h1,h2,h3]
def lenAt (W:World) (G:Nat):Nat:=match W.cell? ⟨G,1,none⟩ with|some (.slice _ n _)=>n|_=>0
theorem zaW.lenAt {w0 W:World} {R G M n c:Nat} {A:Option Addr} {al:Int} {vA:Value} {rows:List Value} {ls:List (List Int)} {acc:List Bool}(h:zaW w0 W R G M al (.slice A n c) rows ls vA acc):Go.Proofs.YtfcjhpodichpjaaGreatDoor.lenAt W G=n:=by
 unfold Go.Proofs.YtfcjhpodichpjaaGreatDoor.lenAt
 rw [h.blk.cell 1]
 rfl
theorem yU03a7 {P:Prop}(h:P:=by
 have hn1:m=0:=by omega
 clear hn0
 have cG:=zhK.blk.cell
 go_wp2_with fail
 go_meet
 exact⟨_,_,_,_,_,_,zhK.more (by omega),za (Hb.out.more (by omega))⟩
 ):P:=h
theorem zcY {R M L:Nat} {A:Option Addr} {n c:Nat} {A':Option Addr} {n' c':Nat} {b:Aut} {w:World}(h:Rd w R M)(hM:M≤900000000)(ho:zO w (R+1) A n c A' n' c' b)(hb:BdA L b)(hL:L≤100) :
  Calls Tryz.prog 81 #[.pointer (some ⟨R,0,none⟩),.agg #[.int .i64 b.al,.slice A n c,.slice A' n' c']] w (zeU R (M+10) (BdA (L+13)) w):=by
 have hRl:=h.lt
 have hsz:=hb.size (by omega)
 go_enter Tryz.func81,Tryz.ntmps81
 have hx0:=(Ext.refl w).alloc (.cells #[.int .i64 b.al,.slice A n c,.slice A' n' c'] 26)
 have b0:=Blk.new w 26 #[.int .i64 b.al,.slice A n c,.slice A' n' c']
 have hs0:(w.alloc (.cells #[.int .i64 b.al,.slice A n c,.slice A' n' c'] 26)).heap.size=w.heap.size+1:=by simp
 have hx1:=hx0.alloc (.cells #[.int .i64 0,.slice none 0 0,.slice none 0 0] 26)
 have bz:=Blk.new (w.alloc (.cells #[.int .i64 b.al,.slice A n c,.slice A' n' c'] 26)) 26 #[.int .i64 0,.slice none 0 0,.slice none 0 0]
 replace b0:=b0.ext ((Ext.refl _).alloc (.cells #[.int .i64 0,.slice none 0 0,.slice none 0 0] 26))
 rw [hs0] at bz
 have c0:=b0.cell
 go_upto_region 1 with fail
 generalize (w.alloc (.cells #[.int .i64 b.al,.slice A n c,.slice A' n' c'] 26)).alloc (.cells #[.int .i64 0,.slice none 0 0,.slice none 0 0] 26)=w1 at *
 have hz1:=bz.lt
 go_wp2_with fail
 refine (zZ (ho.ext hx1).reads hsz).mono ?_
 rintro e w2 ⟨B,m,d,B',m',d',rfl,zhJ,hx2⟩
 obtain⟨rows,zhK⟩:=zaW.of (R:=R) (M:=M) zhJ (h.ext (hx1.trans hx2)) hx2.dr (by omega)
 have hG:=hx2.size
 have hm:m=b.next.length:=zhJ.2.1
 have hmL:m≤100:=by have:=hb.1;omega
 have Hm:=za hm
 have Hb:=za hb
 clear zhJ ho hm hb hsz
 go_upto_region 2 with fail
 generalize w2.alloc (.cells #[.int .i64 b.al,.slice B m d,.slice B' m' d'] 26)=w3 at *
 generalize w2.heap.size=G at *
 have cG:=zhK.blk.cell
 go_wp2_with fail
 refine (zv zhK.rd (by omega)).mono ?_
 rintro e w4 ⟨k,rfl,hk1,-,hr4,hd4⟩
 replace zhK:=zhK.drawn hd4 hr4
 have Hk:=za hk1
 clear hd4 hr4 cG hk1
 go_wp2_with fail
 refine (zv zhK.rd (by omega)).mono ?_
 rintro e w5 ⟨y,rfl,-,-,hr5,hd5⟩
 replace zhK:=zhK.drawn hd5 hr5
 clear hd5 hr5
 go_upto_block 0 with fail
 go_cut [] (fun wx=>∃ (al:Int) (v:Value) (rows:List Value) (ls:List (List Int)) (vA:Value) (acc:List Bool),zaW w1 wx R G (M+10) al v rows ls vA acc∧Hid (BdL (L+13) ls acc))
 case first =>
  have hcases:y=0∨y=1∨y=2∨y=3∨y=4∨y=5∨6≤y:=by omega
  rcases hcases with hy|hy|hy|hy|hy|hy|hy
  ·subst hy
   have hy0:True:=trivial
   go_wp2_with fail
   refine (zaR [64,(-1),1,63,0] 5 #[.int .i64 64,.int .i64 (-1),.int .i64 1,.int .i64 63,.int .i64 0] rfl rfl (by omega) (by omega) zhK.rd (by omega)).mono ?_
   rintro e w6 ⟨x,-,rfl,hr6,hd6⟩
   replace zhK:=(zhK.ext ((Ext.refl _).alloc _)).drawn hd6 hr6
   have cG:=zhK.blk.cell
   have fG:=zhK.blk.frozen
   go_wp2_with fail
   go_meet
   exact⟨_,_,_,_,_,_,(zhK.setAl x).more (by omega),za (Hb.out.more (by omega))⟩
  ·subst hy
   have hy0:True:=trivial
   have cG:=zhK.blk.cell
   have hs1:=zhK.dr.size
   have hal:b.acc.length≤100:=by have:=Hb.out.2.1;omega
   go_wp2_with (at_builtin;refine zab w1 w5 rfl _ _ _ rfl 4 _ 1 1 Tryz.underlying24 zaG rfl (by decide) (.slice B' m' d') b.acc.length (zas b.acc) _ _ rfl rfl hs1 zhK.acc rfl (by simp [Value.oneCell']) (by unfold maxLen;omega) (by omega) ?_;intro g6 cap6 w6 hown6 hg6 hat6 hlt6;obtain⟨q1,q2,q3⟩:=zhK.pushAcc (x:=true) hown6 hg6 hat6;have q1':=q1.out)
   go_meet
   exact⟨_,_,_,_,_,_,q3.more (by omega),za ⟨by have:=Hb.out.1;omega,by have:=Hb.out.2.1;simp;omega,fun l hl=>by have:=Hb.out.2.2 l hl;omega⟩⟩
  ·subst hy
   have hy0:True:=trivial
   by_cases hn0:0<m
   ·have hk:=Hk.out (by omega)
    have hkm:k<b.next.length:=by have:=Hm.out;omega
    obtain⟨l,hl⟩:∃ l,b.next[k]?=some l:=⟨_,List.getElem?_eq_getElem hkm⟩
    obtain⟨gN,rfl,hgN,-⟩:=zP (show w5.ownsRow w1.heap.size 74 1 (.slice B m d) m rows from by have:=zhK.nx;rw [← Hm.out] at this;exact this) hn0
    obtain⟨Ar,cr,hr,hcell,hor⟩:=zhK.row hl Hm.out
    have hll:l.length≤100:=by have:=Hb.out.2.2 l (List.mem_of_getElem? hl);omega
    have HL:=za hl
    have HR:=za hr
    have hs1:=zhK.dr.size
    have cG:∀ W,Frm (fun b=>(Value.slice Ar l.length cr).ownBlock=some b) w5 W→∀ q,W.cell? ⟨G,q,none⟩=#[Value.int .i64 b.al,.slice (some ⟨gN,0,none⟩) m d,.slice B' m' d'][q]?:=fun W hW=>(zhK.blk.frm hW (fun e=>zk hor zhK.blk (by decide) e rfl)).cell
    have cN:∀ W,Frm (fun b=>(Value.slice Ar l.length cr).ownBlock=some b) w5 W→W.cell? ⟨gN,k,none⟩=some (.slice Ar l.length cr):=fun W hW=>by
     have hx:W.ownsRow w1.heap.size 74 1 (.slice (some ⟨gN,0,none⟩) m d) b.next.length rows:=zd zhK.nx hW (fun b hb hS=>zaq zhK.nx hor (by decide) hb hS)
     rw [← Hm.out] at hx
     rw [hx.cellAt k (by omega),HR.out]
    have h00:Frm (fun b=>(Value.slice Ar l.length cr).ownBlock=some b) w5 w5.drew:=(Ext.refl w5).drew.toFrm
    clear hl hr hcell hkm
    go_wp2_with fail
    refine tR (fun X=>Frm (fun b=>(Value.slice Ar l.length cr).ownBlock=some b) w5 X) [11] (Ord.of [0,1,2,3,4,5,6,7,8,9,10,11]) ?_
    refine tQ ?_
    refine zG fun K hK=>?_;go_simp
    have hxd:=(Ext.refl w5).drew
    refine hK.out _ _ (hxd.alloc _).toFrm ?_
    refine pT ?_
    refine zG (fun K hK=>?_)
    refine zaC w1 w5.drew _ _ _ rfl 3 _ 1 8 Tryz.underlying74 zac rfl (by decide) (.slice Ar l.length cr) l.length (ints l) _ _ rfl rfl hs1 (ze hor hxd) rfl (by simp [Value.oneCell']) (by unfold maxLen;omega) (by omega) ?_
    intro g6 cap6 w6 hown6 hg6 hat6 hlt6
    obtain⟨q1,q2,q3,q4⟩:=(zhK.ext hxd).growRow (x:=0) Hm.out HR.out HL.out hown6 hg6 hat6
    have q2':=q2.out
    refine hK.out _ _ (hxd.toFrm.trans (Frm.of_grown hg6)) ?_
    refine pT ?_
    refine tQ ?_
    refine zal fun K hK=>?_
    go_simp
    refine hK.out _ _ ?_
    refine zay ?_
    go_wp2_with fail
    go_meet
    refine⟨_,_,_,_,_,_,q4.more (by omega),za ⟨by have:=Hb.out.1;rw [List.length_set];omega,by have:=Hb.out.2.1;omega,fun l' hl'=>?_⟩⟩
    rcases List.mem_or_eq_of_mem_set hl' with h1|h1
    ·have:=Hb.out.2.2 l' h1;omega
    ·have:=Hb.out.2.2 l (List.mem_of_getElem? HL.out)
     rw [h1];simp;omega
   ·exact yU03a7
  ·subst hy
   have hy0:True:=trivial
   by_cases hn0:0<m
   ·have hk:=Hk.out (by omega)
    have hkm:k<b.next.length:=by have:=Hm.out;omega
    obtain⟨l,hl⟩:∃ l,b.next[k]?=some l:=⟨_,List.getElem?_eq_getElem hkm⟩
    obtain⟨gN,rfl,hgN,-⟩:=zP (show w5.ownsRow w1.heap.size 74 1 (.slice B m d) m rows from by have:=zhK.nx;rw [← Hm.out] at this;exact this) hn0
    obtain⟨Ar,cr,hr,hcell,hor⟩:=zhK.row hl Hm.out
    have hll:l.length≤100:=by have:=Hb.out.2.2 l (List.mem_of_getElem? hl);omega
    have HL:=za hl
    have HR:=za hr
    have Hbl:=za (Hb.out.2.2 l (List.mem_of_getElem? hl))
    clear hl hr hkm
    have cG:=zhK.blk.cell
    by_cases hl0:0<l.length
    ·obtain⟨gr,rfl,-,-⟩:=zP hor hl0
     go_wp2_with fail
     refine (zv (n:=l.length) zhK.rd (by omega)).mono ?_
     rintro e w6 ⟨j,rfl,hj1,-,hr6,hd6⟩
     have hjl:=hj1 (by omega)
     replace zhK:=zhK.drawn hd6 hr6
     have hRG:=zhK.hR
     have cN:∀ W,Dr R w6 W→W.cell? ⟨gN,k,none⟩=some (.slice (some ⟨gr,0,none⟩) l.length cr):=fun W hW=>(hd6.trans hW).cell_some hcell (by simp;omega)
     have hwr:IntKind.i64.wrap ((m:Int) - 1)=(m:Int) - 1:=by rw [IntKind.wrap_i64];omega
     clear cG hj1 hr6 hd6 hcell hor
     have cG:∀ W,Dr R w6 W→∀ q,W.cell? ⟨G,q,none⟩=#[Value.int .i64 b.al,.slice (some ⟨gN,0,none⟩) m d,.slice B' m' d'][q]?:=fun W hW=>(zhK.blk.dr hW (by have:=zhK.hG;omega)).cell
     go_wp2_with fail
     refine tR (fun X=>Dr R w6 X) [13] (Ord.of [0,1,2,3,4,5,6,7,8,9,10,11,12,13]) ?_
     refine tQ ?_
     refine zG fun K hK=>?_;go_simp
     refine hK.out _ _ ((Dr.refl R w6).drew.alloc _) ?_
     refine pT ?_
     refine zG fun K hK=>?_;go_simp
     refine (zaR (w:=w6.drew) [(-1),m,(m:Int) - 1,0] 4 #[.int .i64 (-1),.int .i64 m,.int .i64 ((m:Int) - 1),.int .i64 0] rfl rfl (by omega) (by omega) (zhK.rd.ext (Ext.refl _).drew) (by omega)).mono ?_
     rintro e w7 ⟨x,-,rfl,hr7,hd7⟩
     have hd67:Dr R w6 w7:=((Dr.refl R w6).drew.alloc _).trans hd7
     have hacc7:=zhK.drawn hd67 hr7
     refine hK.out _ _ hd67 ?_
     refine pT ?_
     refine tQ ?_
     have zhJ:=hacc7.rows.2.1 k _ l HR.out HL.out
     obtain⟨o0,c0⟩:=zbJ zhJ j (by omega)
     have f0:=zhJ.frozenAt j
     have hst:=hacc7.setRow (k:=j) (x:=x) HR.out HL.out rfl
     refine zal fun K hK=>?_
     go_simp
     refine hK.out _ _ ?_
     refine zay ?_
     go_wp2_with fail
     go_meet
     refine⟨_,_,_,_,_,_,hst.more (by omega),za ⟨by have:=Hb.out.1;rw [List.length_set];omega,by have:=Hb.out.2.1;omega,fun l' hl'=>?_⟩⟩
     rcases List.mem_or_eq_of_mem_set hl' with h1|h1
     ·have:=Hb.out.2.2 l' h1;omega
     ·rw [h1];simp;have:=Hbl.out;omega
    ·have hl1:l.length=0:=by omega
     have hl2:¬ ((l.length:Int)>0):=by omega
     go_wp2_with fail
     go_meet
     exact⟨_,_,_,_,_,_,zhK.more (by omega),za (Hb.out.more (by omega))⟩
   ·exact yU03a7
  ·subst hy
   have hy0:True:=trivial
   have hs1:=zhK.dr.size
   have hacc1:=zhK.ext ((Ext.refl w5).alloc (.cells #[] 74))
   have hn1:=World.ownsRow_lit (base:=w1.heap.size) (e:=74) (size:=1) w5 #[] 0 hs1 (by unfold maxLen;omega) rfl
   have cG:=hacc1.blk.cell
   have fG:=hacc1.blk.frozen
   go_upto_region 18 with fail
   replace hacc1:=hacc1.setNext hn1
   clear zhK cG fG hn1
   generalize (w5.alloc (.cells #[] 74)).setCell ⟨G,1,none⟩ (.slice (some ⟨w5.heap.size,0,none⟩) 0 0)=w6 at *
   have hs6:=hacc1.dr.size
   have hacc2:=hacc1.ext ((Ext.refl w6).alloc (.cells #[] 4))
   have hn2:=World.ownsRow_lit (base:=w1.heap.size) (e:=4) (size:=1) w6 #[] 0 hs6 (by unfold maxLen;omega) rfl
   have cG:=hacc2.blk.cell
   have fG:=hacc2.blk.frozen
   go_wp2_with fail
   go_meet
   exact⟨_,_,_,_,_,_,(hacc2.setMarks hn2).more (by omega),za ⟨by simp,by simp,fun l hl=>by simp at hl⟩⟩
  ·subst hy
   have hy0:True:=trivial
   by_cases hn0:0<m
   ·have hn0':((m:Int)>0):=by omega
    have hml:m=b.next.length:=Hm.out
    have hlm:m≤L:=by have:=Hb.out.1;omega
    have hst:∃ (i:Nat) (v:Value) (rows:List Value) (ls:List (List Int)) (vA:Value) (acc:List Bool),i≤13∧zaW w1 w5 R G (M+2) b.al v rows ls vA acc∧Hid (ls.length=m+i)∧Hid (i=0∨m+i≤13)∧Hid (acc.length≤L+i)∧Hid (∀ l∈ls,l.length≤L):=
     ⟨0,_,_,_,_,_,by omega,zhK,za hml.symm,za (.inl rfl),za Hb.out.2.1,za Hb.out.2.2⟩
    clear hml zhK
    go_wp2_with fail
    go_loopw [] (fun wr=>∃ (i:Nat) (v:Value) (rows:List Value) (ls:List (List Int)) (vA:Value) (acc:List Bool),i≤13∧zaW w1 wr R G (M+2) b.al v rows ls vA acc∧Hid (ls.length=m+i)∧Hid (i=0∨m+i≤13)∧Hid (acc.length≤L+i)∧Hid (∀ l∈ls,l.length≤L)) (fun wr=>200 - lenAt wr G)
    case atStart=>exact hst
    case round =>
     clear hst
     obtain⟨i,v,rows,ls,vA,acc,hi,zhK,hln,him,hal,hlL⟩:=hrel
     obtain⟨gN,cN,rfl,hgN⟩:∃ g c,v=.slice (some ⟨g,0,none⟩) (m+i) c∧w1.heap.size≤g:=by
      obtain⟨A9,c9,rfl⟩:=zf zhK.nx
      obtain⟨g,rfl,hg,-⟩:=zP zhK.nx (by have:=hln.out;omega)
      exact⟨g,c9,by rw [hln.out],hg⟩
     have hmes:=za zhK.lenAt
     by_cases hlt:m+i≤12
     ·have hlt':((m+i:Nat):Int)≤12:=by omega
      have h0l:0<ls.length:=by have:=hln.out;omega
      obtain⟨l,hl⟩:∃ l,ls[0]?=some l:=⟨_,List.getElem?_eq_getElem h0l⟩
      obtain⟨Ar,cr,hr,hcell,hor⟩:=zhK.row hl hln.out.symm
      have hll:l.length≤L:=hlL.out l (List.mem_of_getElem? hl)
      have Hll:=za hll
      have hlow:=za zhK.low
      have hs1:=zhK.dr.size
      have hrdl:=Reads.of_own hor
      have Hrd:=za (fun W (hW:Ext wr W)=>hrdl.ext hW)
      have cG:∀ W,Ext wr W→∀ q,W.cell? ⟨G,q,none⟩=#[Value.int .i64 b.al,.slice (some ⟨gN,0,none⟩) (m+i) cN,vA][q]?:=fun W hW=>(zhK.blk.ext hW).cell
      have cNx:∀ W,Ext wr W→W.cell? ⟨gN,0,none⟩=some (.slice Ar l.length cr):=fun W hW=>hW.cell_some hcell
      have hww:=Ext.refl wr
      have h0i:(0:Int)<((m+i:Nat):Int):=by omega
      have h0j:0<(m:Int)+(i:Int):=by omega
      clear hl hr hcell hor hrdl h0l
      go_upto_region 21 with fail
      refine uR (fun X=>Ext wr X) [9,11] (zK.of [0,1,3,4,5,6,2,7,8,9,10,11]) ?_
      refine uQ ?_
      have hx0:Ext wr wr.drew:=hww.drew
      generalize wr.drew=wd at *
      refine zb fun K hK=>?_;go_simp
      have hm:=World.ownsRow_made (base:=wr.heap.size) (e:=3) (size:=1) wd #[] 0 hx0.size (Nat.zero_le _) rfl
      have hx1:=(Ext.refl wd).alloc (.cells #[] 3)
      replace hx0:=hx0.trans hx1
      refine hK.out _ _ hx0 ?_
      generalize wd.alloc (.cells #[] 3)=wm at *
      generalize wd.heap.size=MM at *
      refine pT ?_
      refine uQ ?_
      refine zb (fun K hK=>?_)
      refine zo wm _ _ 74 rfl wr.heap.size 3 _ 1 8 Tryz.underlying74 zac rfl (by decide) (.slice (some ⟨MM,0,none⟩) 0 0) 0 [] rfl hm _ _ Ar l.length cr (ints l) rfl (Hrd.out _ hx0) (zhc _) (by unfold maxLen;omega) (by omega) hx0.size ?_
      intro vR w6 hrow hgR hatR
      rw [Nat.zero_add,List.nil_append] at hrow
      obtain⟨BR,dR,rfl⟩:=zf hrow
      have hww3:Ext wr w6:=hx0.grown hgR (fun k hk=>(hm.lt k hk).1)
      refine hK.out _ _ hww3 ?_
      refine pT ?_
      refine uQ ?_
      refine zb fun K hK=>?_;go_simp
      refine hK.out _ _ (hww3.alloc _) ?_
      refine pT ?_
      refine zg fun K hK=>?_
      have hacc6:=zhK.ext hww3
      have hnx6:=hacc6.nx
      rw [hln.out] at hnx6
      refine zaC w1 w6 _ _ _ rfl 74 _ 1 24 Tryz.underlying23 zbj rfl (by decide) (.slice (some ⟨gN,0,none⟩) (m+i) cN) (m+i) rows _ _ rfl rfl hacc6.dr.size hnx6 rfl (zat _ _ _) (by unfold maxLen;omega) (by omega) ?_
      intro g7 cap7 w7 hown7 hg7 hat7 hlt7
      refine hK.out _ _ ?_
      refine pT ?_
      refine uQ ?_
      obtain⟨p1,p2,p3⟩:=hacc6.pushRow (l:=l) (W':=w7) (g:=g7) (cap:=cap7) hlow.out hs1 hrow (by rw [hln.out];exact hown7) hg7 hat7
      have p1':=p1.out
      rw [hln.out] at p3
      refine zg fun K hK=>?_
      go_simp
      refine hK.out _ _ ?_
      refine zj ?_
      generalize w7.setCell ⟨G,1,none⟩ (.slice (some ⟨g7,0,none⟩) (m+i+1) cap7)=w8 at *
      have cG8:=p3.blk.cell
      have hs8:=p3.dr.size
      have hal':=hal.out
      clear p1 p1' p2 cG cNx hown7 hg7 hat7 hacc6 zhK hnx6
      go_wp2_with (at_builtin;refine zab w1 w8 rfl _ _ _ rfl 4 _ 1 1 Tryz.underlying24 zaG rfl (by decide) vA acc.length (zas acc) _ _ rfl rfl hs8 p3.acc rfl (by simp [Value.oneCell']) (by unfold maxLen;omega) (by omega) ?_;intro g9 cap9 w9 hown9 hg9 hat9 hlt9;obtain⟨q1,q2,q3⟩:=p3.pushAcc (x:=false) hown9 hg9 hat9;have q1':=q1.out)
      go_roundw
      case rel=>exact⟨i+1,by omega,_,_,ls++[l],_,acc++[false],q3,za (by have:=hln.out;simp;omega),za (by omega),za (by simp;omega),za (fun l' hl'=>by
       rcases List.mem_append.1 hl' with h1|h1
       ·exact hlL.out l' h1
       ·rw [List.mem_singleton.1 h1];exact Hll.out)⟩
      case measure=>have h1:=q3.lenAt;have h2:=hmes.out;omega
     ·have hlt':¬ (((m+i:Nat):Int)≤12):=by omega
      have cG:=zhK.blk.cell
      go_wp2_with fail
      go_meet
      exact⟨_,_,_,_,_,_,zhK.more (by omega),za ⟨by have:=hln.out;have:=him.out;omega,by have:=hal.out;omega,fun l' hl'=>by have:=hlL.out l' hl';omega⟩⟩
   ·have hn1:m=0:=by omega
    clear hn0
    have cG:=zhK.blk.cell
    have hst:=zhK
    clear zhK
    go_wp2_with fail
    go_loopw [] (fun wr=>zaW w1 wr R G (M+1+1) b.al (.slice B m d) rows b.next (.slice B' m' d') b.acc) (fun wr=>0)
    case atStart=>exact hst
    case round =>
     clear hst cG
     have cG:=hrel.blk.cell
     go_wp2_with fail
     go_meet
     exact⟨_,_,_,_,_,_,hrel.more (by omega),za (Hb.out.more (by omega))⟩
  ·have h0':((y:Int)==0)=false:=by simp;omega
   have h1':((y:Int)==1)=false:=by simp;omega
   have h2':((y:Int)==2)=false:=by simp;omega
   have h3':((y:Int)==3)=false:=by simp;omega
   have h4':((y:Int)==4)=false:=by simp;omega
   have h5':((y:Int)==5)=false:=by simp;omega
   go_wp2_with fail
   go_meet
   exact⟨_,_,_,_,_,_,zhK.more (by omega),za (Hb.out.more (by omega))⟩
 case rest =>
  clear zhK
  obtain⟨al,v,rows,ls,vA,acc,zhK,hbd⟩:=hcut
  obtain⟨A5,c5,rfl⟩:=zf zhK.nx
  obtain⟨B5,d5,rfl⟩:=zf zhK.acc
  obtain⟨f1,f2⟩:=zhK.fin (N:=M+10) (sh:=BdA (L+13)) hx1 bz rfl hRl (by omega) hz1 (by omega) hbd.out
  have bz5:=bz.dr zhK.dr (by omega)
  have cG:=zhK.blk.cell
  have cZ:=bz5.cell
  have fZ:=bz5.frozen
  go_wp2_with fail
  have cf:=f2.cell
  exact bodyPost_ret (v:=.agg #[.int .i64 al,.slice A5 ls.length c5,.slice B5 acc.length d5]) (by simp [results,Tryz.results81,go_sem,cf]) rfl f1.out
theorem zeq {R M L:Nat} {A:Option Addr} {n c:Nat} {A':Option Addr} {n' c':Nat} {b:Aut} {w:World}(h:Rd w R M)(hM:M≤900000000)(ho:zO w (R+1) A n c A' n' c' b)(hb:BdA L b)(hL:L≤100) :
  Calls Tryz.prog 73 #[.pointer (some ⟨R,0,none⟩),.agg #[.int .i64 b.al,.slice A n c,.slice A' n' c']] w (zeU R (M+10) (BdA (L+1)) w):=by
 have hRl:=h.lt
 have hsz:=hb.size (by omega)
 go_enter Tryz.func73,Tryz.ntmps73
 have hx0:=(Ext.refl w).alloc (.cells #[.int .i64 b.al,.slice A n c,.slice A' n' c'] 26)
 have b0:=Blk.new w 26 #[.int .i64 b.al,.slice A n c,.slice A' n' c']
 have hs0:(w.alloc (.cells #[.int .i64 b.al,.slice A n c,.slice A' n' c'] 26)).heap.size=w.heap.size+1:=by simp
 have hx1:=hx0.alloc (.cells #[.int .i64 0,.slice none 0 0,.slice none 0 0] 26)
 have bz:=Blk.new (w.alloc (.cells #[.int .i64 b.al,.slice A n c,.slice A' n' c'] 26)) 26 #[.int .i64 0,.slice none 0 0,.slice none 0 0]
 replace b0:=b0.ext ((Ext.refl _).alloc (.cells #[.int .i64 0,.slice none 0 0,.slice none 0 0] 26))
 rw [hs0] at bz
 have c0:=b0.cell
 go_upto_region 1 with fail
 generalize (w.alloc (.cells #[.int .i64 b.al,.slice A n c,.slice A' n' c'] 26)).alloc (.cells #[.int .i64 0,.slice none 0 0,.slice none 0 0] 26)=w1 at *
 have hz1:=bz.lt
 go_wp2_with fail
 refine (zZ (ho.ext hx1).reads hsz).mono ?_
 rintro e w2 ⟨B,m,d,B',m',d',rfl,zhJ,hx2⟩
 obtain⟨rows,zhK⟩:=zaW.of (R:=R) (M:=M) zhJ (h.ext (hx1.trans hx2)) hx2.dr (by omega)
 have hG:=hx2.size
 have hm:m=b.next.length:=zhJ.2.1
 have hm':m'=b.acc.length:=zhJ.2.2.2
 have hmL:m≤100:=by have:=hb.1;omega
 have Hm:=za hm
 have Hb:=za hb
 subst hm'
 clear zhJ ho hm hb hsz
 go_upto_region 2 with fail
 generalize w2.alloc (.cells #[.int .i64 b.al,.slice B m d,.slice B' b.acc.length d'] 26)=w3 at *
 generalize w2.heap.size=G at *
 have cG:=zhK.blk.cell
 by_cases hm0:m=0
 ·subst hm0
  have zhM:=zhK
  rw [show (Value.slice B' b.acc.length d')=Value.slice B' b.acc.length d' from rfl] at zhM
  obtain⟨f1,f2⟩:=zhM.fin (N:=M+10) (sh:=BdA (L+1)) hx1 bz rfl hRl (by omega) hz1 (by omega) (Hb.out.more (by omega))
  have bz5:=bz.dr zhK.dr (by omega)
  have cZ:=bz5.cell
  have fZ:=bz5.frozen
  clear zhM
  go_wp2_with fail
  have cf:=f2.cell
  exact bodyPost_ret (v:=.agg #[.int .i64 b.al,.slice B 0 d,.slice B' b.acc.length d']) (by simp [results,Tryz.results73,go_sem,cf]) rfl f1.out
 have hm1:((m:Int)==0)=false:=by simp;omega
 go_wp2_with fail
 refine (zv zhK.rd (by omega)).mono ?_
 rintro e w4 ⟨k,rfl,hk1,-,hr4,hd4⟩
 replace zhK:=zhK.drawn hd4 hr4
 have hkm:k<m:=by have:=hk1 (by omega);omega
 clear hd4 hr4 cG hk1 hm1
 go_wp2_with fail
 refine (zv zhK.rd (by omega)).mono ?_
 rintro e w5 ⟨y,rfl,-,-,hr5,hd5⟩
 replace zhK:=zhK.drawn hd5 hr5
 clear hd5 hr5
 go_upto_block 0 with fail
 go_cut [] (fun wx=>∃ (v:Value) (rows:List Value) (ls:List (List Int)) (vA:Value) (acc:List Bool),zaW w1 wx R G (M+10) b.al v rows ls vA acc∧Hid (BdL (L+1) ls acc))
 case first =>
  have hkb:k<b.next.length:=by have:=Hm.out;omega
  obtain⟨l,hl⟩:∃ l,b.next[k]?=some l:=⟨_,List.getElem?_eq_getElem hkb⟩
  obtain⟨gN,rfl,hgN,-⟩:=zP (show w5.ownsRow w1.heap.size 74 1 (.slice B m d) m rows from by have:=zhK.nx;rw [← Hm.out] at this;exact this) (by omega)
  obtain⟨Ar,cr,hr,hcell,hor⟩:=zhK.row hl Hm.out
  have hll:l.length≤100:=by have:=Hb.out.2.2 l (List.mem_of_getElem? hl);omega
  have HL:=za hl
  have HR:=za hr
  have Hbl:=za (Hb.out.2.2 l (List.mem_of_getElem? hl))
  have hs1:=zhK.dr.size
  clear hl hr hkb
  have hcases:y=0∨y=1∨y=2∨3≤y:=by omega
  rcases hcases with hy|hy|hy|hy
  ·subst hy
   have hy0:True:=trivial
   have cG:∀ W,Ext w5 W→∀ q,W.cell? ⟨G,q,none⟩=#[Value.int .i64 b.al,.slice (some ⟨gN,0,none⟩) m d,.slice B' b.acc.length d'][q]?:=fun W hW=>(zhK.blk.ext hW).cell
   by_cases hka:k<b.acc.length
   ·obtain⟨gA,rfl,hgA,-⟩:=zP zhK.acc (by omega)
    obtain⟨x,hx⟩:∃ x,b.acc[k]?=some x:=⟨_,List.getElem?_eq_getElem hka⟩
    have hca:w5.cell? ⟨gA,k,none⟩=some (.bool x):=by rw [zhK.acc.cellAt k (by omega)];simp [zas,hx]
    have cA:∀ W,Ext w5 W→W.cell? ⟨gA,k,none⟩=some (.bool x):=fun W hW=>hW.cell_some hca
    have fA:∀ W,Ext w5 W→W.frozen? ⟨gA,k,none⟩=false:=fun W hW=>(ze zhK.acc hW).frozenAt k
    have hst:=(zhK.ext (Ext.refl w5).drew).setAcc (i:=k) (x:=!x) rfl
    have hka':(k:Int)<(b.acc.length:Int):=by omega
    have hww:=Ext.refl w5
    clear hca hx
    go_wp2_with fail
    refine tR (fun X=>Ext w5 X) [10] (Ord.of [0,1,2,3,4,5,6,7,8,9,10]) ?_
    refine tQ ?_
    refine zal fun K hK=>?_
    go_simp
    refine hK.out _ _ ?_
    refine zay ?_
    go_wp2_with fail
    go_meet
    exact⟨_,_,_,_,_,hst.more (by omega),za ⟨by have:=Hb.out.1;omega,by have:=Hb.out.2.1;rw [List.length_set];omega,fun l' hl'=>by have:=Hb.out.2.2 l' hl';omega⟩⟩
   ·have hka':¬ ((b.acc.length:Int)>(k:Int)):=by omega
    have hww:=Ext.refl w5
    go_wp2_with fail
    go_meet
    exact⟨_,_,_,_,_,zhK.more (by omega),za (Hb.out.more (by omega))⟩
  ·subst hy
   have hy0:True:=trivial
   by_cases hl0:0<l.length
   ·obtain⟨gr,rfl,-,-⟩:=zP hor hl0
    have hRG:=zhK.hR
    have cN:∀ W,Dr R w5 W→W.cell? ⟨gN,k,none⟩=some (.slice (some ⟨gr,0,none⟩) l.length cr):=fun W hW=>hW.cell_some hcell (by simp;omega)
    have cG:∀ W,Dr R w5 W→∀ q,W.cell? ⟨G,q,none⟩=#[Value.int .i64 b.al,.slice (some ⟨gN,0,none⟩) m d,.slice B' b.acc.length d'][q]?:=fun W hW=>(zhK.blk.dr hW (by have:=zhK.hG;omega)).cell
    have hd0:=Dr.refl R w5
    clear hcell hor
    go_wp2_with fail
    refine tR (fun X=>Dr R w5 X) [17] (Ord.of [0,1,2,3,4,5,6,7,8,9,10,11,13,14,12,15,16,17]) ?_
    refine tQ ?_
    refine zG fun K hK=>?_;go_simp
    refine (zv (n:=l.length) (zhK.rd.ext (Ext.refl _).drew) (by omega)).mono ?_
    rintro e w6 ⟨j,rfl,hj1,-,hr6,hd6⟩
    have hjl:=hj1 (by omega)
    have hd56:Dr R w5 w6:=(Dr.refl R w5).drew.trans hd6
    refine hK.out _ _ hd56 ?_
    refine pT ?_
    refine tQ ?_
    refine zG fun K hK=>?_;go_simp
    refine (zv (n:=m) hr6 (by omega)).mono ?_
    rintro e w7 ⟨x,rfl,hx1',-,hr7,hd7⟩
    have hd57:Dr R w5 w7:=hd56.trans hd7
    have hacc7:=zhK.drawn hd57 hr7
    refine hK.out _ _ hd57 ?_
    refine pT ?_
    refine tQ ?_
    have zhJ:=hacc7.rows.2.1 k _ l HR.out HL.out
    obtain⟨o0,c0⟩:=zbJ zhJ j (by omega)
    have f0:=zhJ.frozenAt j
    have hst:=hacc7.setRow (k:=j) (x:=x) HR.out HL.out rfl
    refine zal fun K hK=>?_
    go_simp
    refine hK.out _ _ ?_
    refine zay ?_
    go_wp2_with fail
    go_meet
    refine⟨_,_,_,_,_,hst.more (by omega),za ⟨by have:=Hb.out.1;rw [List.length_set];omega,by have:=Hb.out.2.1;omega,fun l' hl'=>?_⟩⟩
    rcases List.mem_or_eq_of_mem_set hl' with h1|h1
    ·have:=Hb.out.2.2 l' h1;omega
    ·rw [h1];simp;have:=Hbl.out;omega
   ·have hl1:l.length=0:=by omega
    have hl2:¬ ((l.length:Int)>0):=by omega
    have cG:=zhK.blk.cell
    go_wp2_with fail
    go_meet
    exact⟨_,_,_,_,_,zhK.more (by omega),za (Hb.out.more (by omega))⟩
  ·subst hy
   have hy0:True:=trivial
   have cG:∀ W,Ext w5 W→∀ q,W.cell? ⟨G,q,none⟩=#[Value.int .i64 b.al,.slice (some ⟨gN,0,none⟩) m d,.slice B' b.acc.length d'][q]?:=fun W hW=>(zhK.blk.ext hW).cell
   have cNx:∀ W,Ext w5 W→W.cell? ⟨gN,k,none⟩=some (.slice Ar l.length cr):=fun W hW=>hW.cell_some hcell
   have hww:=Ext.refl w5
   by_cases h1:12≤m
   ·have h1':¬ ((m:Int)<12):=by omega
    go_wp2_with fail
    go_meet
    exact⟨_,_,_,_,_,zhK.more (by omega),za (Hb.out.more (by omega))⟩
   have h1':(m:Int)<12:=by omega
   by_cases h2:b.acc.length≤k
   ·have h2':¬ ((b.acc.length:Int)>(k:Int)):=by omega
    go_wp2_with fail
    go_meet
    exact⟨_,_,_,_,_,zhK.more (by omega),za (Hb.out.more (by omega))⟩
   have h2':(b.acc.length:Int)>(k:Int):=by omega
   by_cases h3:l.length≤0
   ·have h3':¬ ((l.length:Int)>0):=by omega
    have h3'':l.length=0:=by omega
    go_wp2_with fail
    go_meet
    exact⟨_,_,_,_,_,zhK.more (by omega),za (Hb.out.more (by omega))⟩
   have hmes:=za zhK.lenAt
   have hrdl:=Reads.of_own hor
   have Hrd:=za (fun W (hW:Ext w5 W)=>hrdl.ext hW)
   have hlow:=za zhK.low
   have hor':=za hor
   clear hcell hor hrdl
   go_upto_region 15 with fail
   refine uR (fun X=>Ext w5 X) [10,12] (zK.of [0,1,3,4,5,6,7,2,8,9,10,11,12]) ?_
   refine uQ ?_
   have hx0:Ext w5 w5.drew:=hww.drew
   generalize w5.drew=wd at *
   refine zb fun K hK=>?_;go_simp
   have hm:=World.ownsRow_made (base:=w5.heap.size) (e:=3) (size:=1) wd #[] 0 hx0.size (Nat.zero_le _) rfl
   have hx1:=(Ext.refl wd).alloc (.cells #[] 3)
   replace hx0:=hx0.trans hx1
   refine hK.out _ _ hx0 ?_
   generalize wd.alloc (.cells #[] 3)=wm at *
   generalize wd.heap.size=MM at *
   refine pT ?_
   refine uQ ?_
   refine zb (fun K hK=>?_)
   refine zo wm _ _ 74 rfl w5.heap.size 3 _ 1 8 Tryz.underlying74 zac rfl (by decide) (.slice (some ⟨MM,0,none⟩) 0 0) 0 [] rfl hm _ _ Ar l.length cr (ints l) rfl (Hrd.out _ hx0) (zhc _) (by unfold maxLen;omega) (by omega) hx0.size ?_
   intro vR w6 hrow hgR hatR
   rw [Nat.zero_add,List.nil_append] at hrow
   obtain⟨BR,dR,rfl⟩:=zf hrow
   have hww3:Ext w5 w6:=hx0.grown hgR (fun k hk=>(hm.lt k hk).1)
   refine hK.out _ _ hww3 ?_
   refine pT ?_
   refine uQ ?_
   refine zb fun K hK=>?_;go_simp
   refine hK.out _ _ (hww3.alloc _) ?_
   refine pT ?_
   refine zg fun K hK=>?_
   have hacc6:=zhK.ext hww3
   have hnx6:=hacc6.nx
   rw [← Hm.out] at hnx6
   refine zaC w1 w6 _ _ _ rfl 74 _ 1 24 Tryz.underlying23 zbj rfl (by decide) (.slice (some ⟨gN,0,none⟩) m d) m rows _ _ rfl rfl hacc6.dr.size hnx6 rfl (zat _ _ _) (by unfold maxLen;omega) (by omega) ?_
   intro g7 cap7 w7 hown7 hg7 hat7 hlt7
   refine hK.out _ _ ?_
   refine pT ?_
   refine uQ ?_
   obtain⟨p1,p2,p3⟩:=hacc6.pushRow (l:=l) (W':=w7) (g:=g7) (cap:=cap7) hlow.out hs1 hrow (by rw [← Hm.out];exact hown7) hg7 hat7
   have p1':=p1.out
   rw [← Hm.out] at p3
   refine zg fun K hK=>?_
   go_simp
   refine hK.out _ _ ?_
   refine zj ?_
   generalize w7.setCell ⟨G,1,none⟩ (.slice (some ⟨g7,0,none⟩) (m+1) cap7)=w8 at *
   have hs8:=p3.dr.size
   clear p1 p1' p2 cG cNx hown7 hg7 hat7 hacc6 zhK hnx6 hww3 hx0 hx1
   obtain⟨gA,rfl,hgA,-⟩:=zP p3.acc (by omega)
   obtain⟨x,hx⟩:∃ x,b.acc[k]?=some x:=⟨_,List.getElem?_eq_getElem (by omega)⟩
   have hca:w8.cell? ⟨gA,k,none⟩=some (.bool x):=by rw [p3.acc.cellAt k (by omega)];simp [zas,hx]
   have cA:∀ W,Ext w8 W→W.cell? ⟨gA,k,none⟩=some (.bool x):=fun W hW=>hW.cell_some hca
   have cG8:∀ W,Ext w8 W→∀ q,W.cell? ⟨G,q,none⟩=#[Value.int .i64 b.al,.slice (some ⟨g7,0,none⟩) (m+1) cap7,.slice (some ⟨gA,0,none⟩) b.acc.length d'][q]?:=fun W hW=>(p3.blk.ext hW).cell
   have hww:=Ext.refl w8
   clear hca hx
   go_upto_region 16 with fail
   refine uR (fun X=>Ext w8 X) [8,10] (zK.of [0,1,2,3,4,5,6,7,8,9,10]) ?_
   refine uQ ?_
   have hx8:Ext w8 w8.drew:=hww.drew
   generalize w8.drew=wd2 at *
   refine zb fun K hK=>?_;go_simp
   refine hK.out _ _ (hx8.alloc _) ?_
   refine pT ?_
   refine zg fun K hK=>?_
   have hacc8:=p3.ext hx8
   refine zaC w1 wd2 _ _ _ rfl 4 _ 1 1 Tryz.underlying24 zaG rfl (by decide) (.slice (some ⟨gA,0,none⟩) b.acc.length d') b.acc.length (zas b.acc) _ _ rfl rfl hacc8.dr.size hacc8.acc rfl (by simp [Value.oneCell']) (by unfold maxLen;have:=Hb.out.2.1;omega) (by have:=Hb.out.2.1;omega) ?_
   intro g9 cap9 w9 hown9 hg9 hat9 hlt9
   refine hK.out _ _ ?_
   refine pT ?_
   refine uQ ?_
   obtain⟨q1,q2,q3⟩:=hacc8.pushAcc (x:=x) hown9 hg9 hat9
   have q1':=q1.out
   refine zg fun K hK=>?_
   go_simp
   refine hK.out _ _ ?_
   refine zj ?_
   generalize w9.setCell ⟨G,2,none⟩ (.slice (some ⟨g9,0,none⟩) (b.acc.length+1) cap9)=w10 at *
   clear q1 q1' q2 cG8 cA hacc8 p3 hown9 hg9 hat9 hx8
   have hkl:k<rows.length:=by have:=q3.rows.1;simp at this;have:=Hm.out;omega
   have hR2:(rows++[Value.slice BR l.length dR])[k]?=some (.slice Ar l.length cr):=by rw [List.getElem?_append_left hkl];exact HR.out
   have hL2:(b.next++[l])[k]?=some l:=by rw [List.getElem?_append_left (by have:=Hm.out;omega)];exact HL.out
   have zhJ:=q3.rows.2.1 k _ l hR2 hL2
   obtain⟨gr,rfl,-,-⟩:=zP zhJ (by omega)
   obtain⟨o0,c0⟩:=zbJ zhJ 0 (by omega)
   have f0:=zhJ.frozenAt 0
   have hst:=q3.setRow (k:=0) (x:=m) hR2 hL2 rfl
   have cG:=q3.blk.cell
   have cN:w10.cell? ⟨g7,k,none⟩=some (.slice (some ⟨gr,0,none⟩) l.length cr):=by
    have:=q3.nx
    rw [List.length_append,List.length_singleton,← Hm.out] at this
    rw [this.cellAt k (by omega)];exact hR2
   clear zhJ hR2 hL2
   go_wp2_with fail
   go_meet
   refine⟨_,_,_,_,_,hst.more (by omega),za ⟨by have:=Hb.out.1;rw [List.length_set];simp;omega,by have:=Hb.out.2.1;simp;omega,fun l' hl'=>?_⟩⟩
   rcases List.mem_or_eq_of_mem_set hl' with h1|h1
   ·rcases List.mem_append.1 h1 with h1|h1
    ·have:=Hb.out.2.2 l' h1;omega
    ·rw [List.mem_singleton.1 h1];have:=Hbl.out;omega
   ·rw [h1];simp;have:=Hbl.out;omega
  ·have h0':((y:Int)==0)=false:=by simp;omega
   have h1':((y:Int)==1)=false:=by simp;omega
   have h2':((y:Int)==2)=false:=by simp;omega
   go_wp2_with fail
   go_meet
   exact⟨_,_,_,_,_,zhK.more (by omega),za (Hb.out.more (by omega))⟩
 case rest =>
  clear zhK
  obtain⟨v,rows,ls,vA,acc,zhK,hbd⟩:=hcut
  obtain⟨A5,c5,rfl⟩:=zf zhK.nx
  obtain⟨B5,d5,rfl⟩:=zf zhK.acc
  obtain⟨f1,f2⟩:=zhK.fin (N:=M+10) (sh:=BdA (L+1)) hx1 bz rfl hRl (by omega) hz1 (by omega) hbd.out
  have bz5:=bz.dr zhK.dr (by omega)
  have cG:=zhK.blk.cell
  have cZ:=bz5.cell
  have fZ:=bz5.frozen
  go_wp2_with fail
  have cf:=f2.cell
  exact bodyPost_ret (v:=.agg #[.int .i64 b.al,.slice A5 ls.length c5,.slice B5 acc.length d5]) (by simp [results,Tryz.results73,go_sem,cf]) rfl f1.out
theorem own_typ {w:World} {base:Nat} {e:TypeId} {size n b:Nat} {v:Value} {xs:List Value}(h:w.ownsRow base e size v n xs)(hb:v.ownBlock=some b):∃ cur,w.heap[b]?=some (.cells cur e (0,0)):=by
 rcases h.2 with ⟨rfl,_⟩|⟨g,cap,cur,rfl,_,hh,_⟩
 ·simp [Value.ownBlock] at hb
 ·have:g=b:=by simpa [Value.ownBlock] using hb
  subst this
  exact⟨cur,hh⟩
theorem zO.frmT {S:Nat→Prop} {w w':World} {base:Nat} {A:Option Addr} {n c:Nat} {A':Option Addr} {n' c':Nat} {a:Aut}(h:zO w base A n c A' n' c' a)(hb:Frm S w w')
  (hS:∀ k,S k→∀ cs t,w.heap[k]?=some (.cells cs t (0,0))→t≠3∧t≠74∧t≠4):zO w' base A n c A' n' c' a:=by
 obtain⟨⟨rows,h1,h2⟩,h3,h4,h5⟩:=h
 refine⟨⟨rows,zd h1 hb (fun b hv hs=>?_),h2.frm hb (fun i r b hr hb hs=>?_)⟩,h3,zd h4 hb (fun b hv hs=>?_),h5⟩
 ·obtain⟨cs,hc⟩:=own_typ h1 hv
  exact (hS b hs cs _ hc).2.1 rfl
 ·obtain⟨l',_,ho⟩:=h2.row hr
  obtain⟨cs,hc⟩:=own_typ ho hb
  exact (hS b hs cs _ hc).1 rfl
 ·obtain⟨cs,hc⟩:=own_typ h4 hv
  exact (hS b hs cs _ hc).2.2 rfl
theorem zO.farT {w w':World} {base G:Nat} {A:Option Addr} {n c:Nat} {A':Option Addr} {n' c':Nat} {a:Aut} {cs:Array Value} {t:TypeId}(h:zO w base A n c A' n' c' a)(hB:Blk w G t cs)(hf:Frm (fun k=>k=G) w w')(ht:t≠3∧t≠74∧t≠4):zO w' base A n c A' n' c' a:=
 h.frmT hf (fun k hk cs' t' hh=>by
  subst hk
  unfold Blk at hB
  rw [hB] at hh
  injection hh with hh
  injection hh with _ h2
  subst h2
  exact ht)
theorem Dr.far {R Z:Nat} {a b c:World}(h:Dr R a b)(hf:Frm (fun k=>k=Z) b c)(hZ:a.heap.size≤Z):Dr R a c:=
 ⟨hf.os.trans h.os,hf.tape.trans h.tape,hf.output.trans h.output,Nat.le_trans h.size hf.size,fun k hk hn=>(hf.block k (Nat.lt_of_lt_of_le hk h.size) (fun e=>by omega)).trans (h.block k hk hn)⟩
theorem zaw (W:World) (Z:Nat) (u0 u1 u2:Value):Frm (fun k=>k=Z) W (((W.setCell ⟨Z,0,none⟩ u0).setCell ⟨Z,1,none⟩ u1).setCell ⟨Z,2,none⟩ u2):=
 ((Frm.setCell W Z 0 u0).trans (Frm.setCell _ Z 1 u1)).trans (Frm.setCell _ Z 2 u2)
theorem zaV {w:World} {Z:Nat} {cs:Array Value} {t:TypeId}(h:Blk w Z t cs)(hc:cs.size=3) (u0 u1 u2:Value):Blk (((w.setCell ⟨Z,0,none⟩ u0).setCell ⟨Z,1,none⟩ u1).setCell ⟨Z,2,none⟩ u2) Z t #[u0,u1,u2]:=by
 obtain⟨l⟩:=cs
 match l,hc with
 |[a,b,c],_=>simpa using ((h.set_ 0 u0).set_ 1 u1).set_ 2 u2
def autZ:Aut:=⟨0,[],[]⟩
theorem zhg (w:World) (base:Nat):zO w base none 0 0 none 0 0 autZ:=⟨⟨[],World.ownsRow_nil _ _ _ _,zy.nil _ _⟩,rfl,World.ownsRow_nil _ _ _ _,rfl⟩
theorem bd_autZ (K:Nat):BdA K autZ:=⟨Nat.zero_le _,Nat.zero_le _,fun l hl=>by simp [autZ] at hl⟩
structure zbg (w0 W:World) (R M L K:Nat) (s:Sys) (A:Option Addr) (n c:Nat) (t:Sys) (C:Option Addr) (k c2:Nat) (p:Aut) (B:Option Addr) (m d:Nat) (B':Option Addr) (m' d':Nat):Prop where
 is:zbd W R A n s
 it:zbd W R C k t
 ip:zO W (R+1) B m d B' m' d' p
 ns:(n≤L∧n≤c)∧(k≤L∧k≤c2)
 bd:Hid (BdA K p)
 rd:Rd W R M
 dr:Dr R w0 W
 hR:R<w0.heap.size
section
variable {w0 W W':World} {R M L K N J H Z n c k c2 m d m' d':Nat} {s t:Sys} {p:Aut} {A B B' C:Option Addr}
theorem zbg.drawn (h:zbg w0 W R M L K s A n c t C k c2 p B m d B' m' d')(hd:Dr R W W')(hr:Rd W' R N):zbg w0 W' R N L K s A n c t C k c2 p B m d B' m' d':=
 ⟨h.is.dr hd,h.it.dr hd,h.ip.keep hd (fun b h1 e=>by omega),h.ns,h.bd,hr,h.dr.trans hd,h.hR⟩
theorem zbg.ext (h:zbg w0 W R M L K s A n c t C k c2 p B m d B' m' d')(hx:Ext W W'):zbg w0 W' R M L K s A n c t C k c2 p B m d B' m' d':=h.drawn hx.dr (h.rd.ext hx)
theorem zbg.more (h:zbg w0 W R M L K s A n c t C k c2 p B m d B' m' d')(hM:M≤N)(hL:L≤J)(hK:K≤H):zbg w0 W R N J H s A n c t C k c2 p B m d B' m' d':=
 ⟨h.is,h.it,h.ip,by have:=h.ns;omega,za (BdL.more h.bd.out hK),h.rd.more hM,h.dr,h.hR⟩
theorem zbg.far {ty:TypeId} {cs:Array Value}(h:zbg w0 W R M L K s A n c t C k c2 p B m d B' m' d')(hB:Blk W Z ty cs)(hf:Frm (fun k=>k=Z) W W')(hZ:w0.heap.size≤Z)(h1:ty≠103)(h2:ty≠3∧ty≠74∧ty≠4):zbg w0 W' R M L K s A n c t C k c2 p B m d B' m' d':=
 ⟨h.is.far hB h1 hf,h.it.far hB h1 hf,h.ip.farT hB hf h2,h.ns,h.bd,h.rd.frm hf (fun k hk e=>by have:=h.hR;omega),h.dr.far hf hZ,h.hR⟩
theorem zbg.less {w1:World}(h:zbg w0 W R M L K s A n c t C k c2 p B m d B' m' d')(hd:Dr R w1 w0)(hR:R<w1.heap.size):zbg w1 W R M L K s A n c t C k c2 p B m d B' m' d':=
 ⟨h.is,h.it,h.ip,h.ns,h.bd,h.rd,hd.trans h.dr,hR⟩
end
def Ne6 (a b c d e f:Nat):Prop:=(a≠b∧a≠c∧a≠d∧a≠e∧a≠f)∧(b≠c∧b≠d∧b≠e∧b≠f)∧(c≠d∧c≠e∧c≠f)∧(d≠e∧d≠f)∧e≠f
structure Tri (w0 W:World) (R M L K:Nat) (Zs Zt Zp Gs Gt Gp:Nat) (s:Sys) (A:Option Addr) (n c:Nat) (t:Sys) (C:Option Addr) (k c2:Nat) (p:Aut) (B:Option Addr) (m d:Nat) (B':Option Addr) (m' d':Nat):Prop where
 at_:zbg w0 W R M L K s A n c t C k c2 p B m d B' m' d'
 zs:Blk W Zs 39 #[.int .i64 0,.int .i64 0,.slice none 0 0]
 zt:Blk W Zt 39 #[.int .i64 0,.int .i64 0,.slice none 0 0]
 zp:Blk W Zp 26 #[.int .i64 0,.slice none 0 0,.slice none 0 0]
 bs:Blk W Gs 39 #[.int .i64 s.al,.int .i64 s.st,.slice A n c]
 bt:Blk W Gt 39 #[.int .i64 t.al,.int .i64 t.st,.slice C k c2]
 bp:Gp=0∨Blk W Gp 26 #[.int .i64 p.al,.slice B m d,.slice B' m' d']
 ge:w0.heap.size≤Zs∧w0.heap.size≤Zt∧w0.heap.size≤Zp∧w0.heap.size≤Gs∧w0.heap.size≤Gt∧(Gp=0∨w0.heap.size≤Gp)
 ne:Hid (Ne6 Zs Zt Zp Gs Gt Gp)
section
variable {w0 W W':World} {R M L K N J H n c k c2 m d m' d' Zs Zt Zp Gs Gt Gp:Nat} {s t:Sys} {p:Aut} {A B B' C:Option Addr}
theorem Tri.drawn (h:Tri w0 W R M L K Zs Zt Zp Gs Gt Gp s A n c t C k c2 p B m d B' m' d')(hd:Dr R W W')(hr:Rd W' R N):Tri w0 W' R N L K Zs Zt Zp Gs Gt Gp s A n c t C k c2 p B m d B' m' d':=by
 have hR:=h.at_.hR
 have hg:=h.ge
 exact⟨h.at_.drawn hd hr,h.zs.dr hd (by omega),h.zt.dr hd (by omega),h.zp.dr hd (by omega),h.bs.dr hd (by omega),h.bt.dr hd (by omega),by
  rcases hg.2.2.2.2.2 with e|e
  ·exact .inl e
  ·exact h.bp.imp id (fun b=>b.dr hd (by omega)),hg,h.ne⟩
theorem Tri.ext (h:Tri w0 W R M L K Zs Zt Zp Gs Gt Gp s A n c t C k c2 p B m d B' m' d')(hx:Ext W W'):Tri w0 W' R M L K Zs Zt Zp Gs Gt Gp s A n c t C k c2 p B m d B' m' d':=h.drawn hx.dr (h.at_.rd.ext hx)
theorem Tri.more (h:Tri w0 W R M L K Zs Zt Zp Gs Gt Gp s A n c t C k c2 p B m d B' m' d')(hM:M≤N)(hL:L≤J)(hK:K≤H):Tri w0 W R N J H Zs Zt Zp Gs Gt Gp s A n c t C k c2 p B m d B' m' d':={ h with at_:=h.at_.more hM hL hK }
theorem Tri.pvar (h:Tri w0 W R M L K Zs Zt Zp Gs Gt Gp s A n c t C k c2 p B m d B' m' d')(hG:Gp≠0):Blk W Gp 26 #[.int .i64 p.al,.slice B m d,.slice B' m' d']:=h.bp.resolve_left hG
theorem Tri.setS {s2:Sys} {A2:Option Addr} {n2 d2:Nat}(h:Tri w0 W R M L K Zs Zt Zp Gs Gt Gp s A n c t C k c2 p B m d B' m' d')(hs:zbd W R A2 n2 s2)(hn:n2≤L∧n2≤d2) :
  Tri w0 (((W.setCell ⟨Gs,0,none⟩ (.int .i64 s2.al)).setCell ⟨Gs,1,none⟩ (.int .i64 s2.st)).setCell ⟨Gs,2,none⟩ (.slice A2 n2 d2)) R M L K Zs Zt Zp Gs Gt Gp s2 A2 n2 d2 t C k c2 p B m d B' m' d':=by
 have hf:=zaw W Gs (.int .i64 s2.al) (.int .i64 s2.st) (.slice A2 n2 d2)
 obtain⟨⟨a1,a2,a3,a4,a5⟩,⟨b1,b2,b3,b4⟩,⟨c1,c2,c3⟩,⟨d1,d2'⟩,e1⟩:=h.ne.out
 have h1:=h.at_.far h.bs hf h.ge.2.2.2.1 (by decide) (by decide)
 exact⟨{ h1 with is:=hs.far h.bs (by decide) hf,ns:=⟨hn,h1.ns.2⟩ },h.zs.frm hf (by omega),h.zt.frm hf (by omega),h.zp.frm hf (by omega),zaV h.bs rfl _ _ _,h.bt.frm hf (by omega),h.bp.imp id (fun b=>b.frm hf (by omega)),h.ge,h.ne⟩
theorem Tri.setT {s2:Sys} {A2:Option Addr} {n2 d2:Nat}(h:Tri w0 W R M L K Zs Zt Zp Gs Gt Gp s A n c t C k c2 p B m d B' m' d')(hs:zbd W R A2 n2 s2)(hn:n2≤L∧n2≤d2) :
  Tri w0 (((W.setCell ⟨Gt,0,none⟩ (.int .i64 s2.al)).setCell ⟨Gt,1,none⟩ (.int .i64 s2.st)).setCell ⟨Gt,2,none⟩ (.slice A2 n2 d2)) R M L K Zs Zt Zp Gs Gt Gp s A n c s2 A2 n2 d2 p B m d B' m' d':=by
 have hf:=zaw W Gt (.int .i64 s2.al) (.int .i64 s2.st) (.slice A2 n2 d2)
 obtain⟨⟨a1,a2,a3,a4,a5⟩,⟨b1,b2,b3,b4⟩,⟨c1,c2,c3⟩,⟨d1,d2'⟩,e1⟩:=h.ne.out
 have h1:=h.at_.far h.bt hf h.ge.2.2.2.2.1 (by decide) (by decide)
 exact⟨{ h1 with it:=hs.far h.bt (by decide) hf,ns:=⟨h1.ns.1,hn⟩ },h.zs.frm hf (by omega),h.zt.frm hf (by omega),h.zp.frm hf (by omega),h.bs.frm hf (by omega),zaV h.bt rfl _ _ _,h.bp.imp id (fun b=>b.frm hf (by omega)),h.ge,h.ne⟩
theorem Tri.setP {p2:Aut} {A2:Option Addr} {n2 d2:Nat} {A3:Option Addr} {n3 d3:Nat}(h:Tri w0 W R M L K Zs Zt Zp Gs Gt Gp s A n c t C k c2 p B m d B' m' d')(hG:Gp≠0)(hp:zO W (R+1) A2 n2 d2 A3 n3 d3 p2)(hb:BdA K p2) :
  Tri w0 (((W.setCell ⟨Gp,0,none⟩ (.int .i64 p2.al)).setCell ⟨Gp,1,none⟩ (.slice A2 n2 d2)).setCell ⟨Gp,2,none⟩ (.slice A3 n3 d3)) R M L K Zs Zt Zp Gs Gt Gp s A n c t C k c2 p2 A2 n2 d2 A3 n3 d3:=by
 have hf:=zaw W Gp (.int .i64 p2.al) (.slice A2 n2 d2) (.slice A3 n3 d3)
 obtain⟨⟨a1,a2,a3,a4,a5⟩,⟨b1,b2,b3,b4⟩,⟨c1,c2,c3⟩,⟨d1,d2'⟩,e1⟩:=h.ne.out
 have hB:=h.pvar hG
 have h1:=h.at_.far hB hf (h.ge.2.2.2.2.2.resolve_left hG) (by decide) (by decide)
 exact⟨{ h1 with ip:=hp.farT hB hf (by decide),bd:=za hb },h.zs.frm hf (by omega),h.zt.frm hf (by omega),h.zp.frm hf (by omega),h.bs.frm hf (by omega),h.bt.frm hf (by omega),.inr (zaV hB rfl _ _ _),h.ge,h.ne⟩
end
def RetSTP (R M L K:Nat) (w:World) (e:Ending) (w':World):Prop:=
 ∃ (s:Sys) (A:Option Addr) (n c:Nat) (t:Sys) (C:Option Addr) (k c2:Nat) (p:Aut) (B:Option Addr) (m d:Nat) (B':Option Addr) (m' d':Nat),
  e=.returned (.tuple #[.agg #[.int .i64 s.al,.int .i64 s.st,.slice A n c],.agg #[.int .i64 t.al,.int .i64 t.st,.slice C k c2],.agg #[.int .i64 p.al,.slice B m d,.slice B' m' d']])∧zbg w w' R M L K s A n c t C k c2 p B m d B' m' d'
def RetSPT (R M L K:Nat) (w:World) (e:Ending) (w':World):Prop:=
 ∃ (s:Sys) (A:Option Addr) (n c:Nat) (t:Sys) (C:Option Addr) (k c2:Nat) (p:Aut) (B:Option Addr) (m d:Nat) (B':Option Addr) (m' d':Nat),
  e=.returned (.tuple #[.agg #[.int .i64 s.al,.int .i64 s.st,.slice A n c],.agg #[.int .i64 p.al,.slice B m d,.slice B' m' d'],.agg #[.int .i64 t.al,.int .i64 t.st,.slice C k c2]])∧zbg w w' R M L K s A n c t C k c2 p B m d B' m' d'
section
variable {w0 W:World} {R M L K N J H n c k c2 m d m' d' Zs Zt Zp:Nat} {s t:Sys} {p:Aut} {A B B' C:Option Addr} {us ut up:Array Value}
theorem zbg.finSTP (h:zbg w0 W R M L K s A n c t C k c2 p B m d B' m' d') (zs:Blk W Zs 39 us) (zt:Blk W Zt 39 ut) (zp:Blk W Zp 26 up)(h1:us.size=3)(h2:ut.size=3)(h3:up.size=3)(hz1:w0.heap.size≤Zs)(hz2:w0.heap.size≤Zt)(hz3:w0.heap.size≤Zp) (e1:Zs≠Zt) (e2:Zs≠Zp) (e3:Zt≠Zp) :
  Hid (zbg w0 (((((((((W.setCell ⟨Zs,0,none⟩ (.int .i64 s.al)).setCell ⟨Zs,1,none⟩ (.int .i64 s.st)).setCell ⟨Zs,2,none⟩ (.slice A n c)).setCell ⟨Zt,0,none⟩ (.int .i64 t.al)).setCell ⟨Zt,1,none⟩ (.int .i64 t.st)).setCell ⟨Zt,2,none⟩ (.slice C k c2)).setCell ⟨Zp,0,none⟩ (.int .i64 p.al)).setCell ⟨Zp,1,none⟩ (.slice B m d)).setCell ⟨Zp,2,none⟩ (.slice B' m' d')) R M L K s A n c t C k c2 p B m d B' m' d') ∧
  Hid (Blk (((((((((W.setCell ⟨Zs,0,none⟩ (.int .i64 s.al)).setCell ⟨Zs,1,none⟩ (.int .i64 s.st)).setCell ⟨Zs,2,none⟩ (.slice A n c)).setCell ⟨Zt,0,none⟩ (.int .i64 t.al)).setCell ⟨Zt,1,none⟩ (.int .i64 t.st)).setCell ⟨Zt,2,none⟩ (.slice C k c2)).setCell ⟨Zp,0,none⟩ (.int .i64 p.al)).setCell ⟨Zp,1,none⟩ (.slice B m d)).setCell ⟨Zp,2,none⟩ (.slice B' m' d')) Zs 39 #[.int .i64 s.al,.int .i64 s.st,.slice A n c] ∧
  Blk (((((((((W.setCell ⟨Zs,0,none⟩ (.int .i64 s.al)).setCell ⟨Zs,1,none⟩ (.int .i64 s.st)).setCell ⟨Zs,2,none⟩ (.slice A n c)).setCell ⟨Zt,0,none⟩ (.int .i64 t.al)).setCell ⟨Zt,1,none⟩ (.int .i64 t.st)).setCell ⟨Zt,2,none⟩ (.slice C k c2)).setCell ⟨Zp,0,none⟩ (.int .i64 p.al)).setCell ⟨Zp,1,none⟩ (.slice B m d)).setCell ⟨Zp,2,none⟩ (.slice B' m' d')) Zt 39 #[.int .i64 t.al,.int .i64 t.st,.slice C k c2] ∧
  Blk (((((((((W.setCell ⟨Zs,0,none⟩ (.int .i64 s.al)).setCell ⟨Zs,1,none⟩ (.int .i64 s.st)).setCell ⟨Zs,2,none⟩ (.slice A n c)).setCell ⟨Zt,0,none⟩ (.int .i64 t.al)).setCell ⟨Zt,1,none⟩ (.int .i64 t.st)).setCell ⟨Zt,2,none⟩ (.slice C k c2)).setCell ⟨Zp,0,none⟩ (.int .i64 p.al)).setCell ⟨Zp,1,none⟩ (.slice B m d)).setCell ⟨Zp,2,none⟩ (.slice B' m' d')) Zp 26 #[.int .i64 p.al,.slice B m d,.slice B' m' d']):=by
 have f1:=zaw W Zs (.int .i64 s.al) (.int .i64 s.st) (.slice A n c)
 have q1:=zaV zs h1 (.int .i64 s.al) (.int .i64 s.st) (.slice A n c)
 replace h:=h.far zs f1 hz1 (by decide) (by decide)
 replace zt:=zt.frm f1 (by omega)
 replace zp:=zp.frm f1 (by omega)
 clear f1 zs
 generalize ((W.setCell ⟨Zs,0,none⟩ (.int .i64 s.al)).setCell ⟨Zs,1,none⟩ (.int .i64 s.st)).setCell ⟨Zs,2,none⟩ (.slice A n c)=W1 at *
 have f2:=zaw W1 Zt (.int .i64 t.al) (.int .i64 t.st) (.slice C k c2)
 have q2:=zaV zt h2 (.int .i64 t.al) (.int .i64 t.st) (.slice C k c2)
 replace h:=h.far zt f2 hz2 (by decide) (by decide)
 replace q1:=q1.frm f2 (by omega)
 replace zp:=zp.frm f2 (by omega)
 clear f2 zt
 generalize ((W1.setCell ⟨Zt,0,none⟩ (.int .i64 t.al)).setCell ⟨Zt,1,none⟩ (.int .i64 t.st)).setCell ⟨Zt,2,none⟩ (.slice C k c2)=W2 at *
 have f3:=zaw W2 Zp (.int .i64 p.al) (.slice B m d) (.slice B' m' d')
 exact⟨za (h.far zp f3 hz3 (by decide) (by decide)),za ⟨q1.frm f3 (by omega),q2.frm f3 (by omega),zaV zp h3 _ _ _⟩⟩
theorem zbg.finSPT (h:zbg w0 W R M L K s A n c t C k c2 p B m d B' m' d') (zs:Blk W Zs 39 us) (zt:Blk W Zt 39 ut) (zp:Blk W Zp 26 up)(h1:us.size=3)(h2:ut.size=3)(h3:up.size=3)(hz1:w0.heap.size≤Zs)(hz2:w0.heap.size≤Zt)(hz3:w0.heap.size≤Zp) (e1:Zs≠Zt) (e2:Zs≠Zp) (e3:Zt≠Zp) :
  Hid (zbg w0 (((((((((W.setCell ⟨Zs,0,none⟩ (.int .i64 s.al)).setCell ⟨Zs,1,none⟩ (.int .i64 s.st)).setCell ⟨Zs,2,none⟩ (.slice A n c)).setCell ⟨Zp,0,none⟩ (.int .i64 p.al)).setCell ⟨Zp,1,none⟩ (.slice B m d)).setCell ⟨Zp,2,none⟩ (.slice B' m' d')).setCell ⟨Zt,0,none⟩ (.int .i64 t.al)).setCell ⟨Zt,1,none⟩ (.int .i64 t.st)).setCell ⟨Zt,2,none⟩ (.slice C k c2)) R M L K s A n c t C k c2 p B m d B' m' d') ∧
  Hid (Blk (((((((((W.setCell ⟨Zs,0,none⟩ (.int .i64 s.al)).setCell ⟨Zs,1,none⟩ (.int .i64 s.st)).setCell ⟨Zs,2,none⟩ (.slice A n c)).setCell ⟨Zp,0,none⟩ (.int .i64 p.al)).setCell ⟨Zp,1,none⟩ (.slice B m d)).setCell ⟨Zp,2,none⟩ (.slice B' m' d')).setCell ⟨Zt,0,none⟩ (.int .i64 t.al)).setCell ⟨Zt,1,none⟩ (.int .i64 t.st)).setCell ⟨Zt,2,none⟩ (.slice C k c2)) Zs 39 #[.int .i64 s.al,.int .i64 s.st,.slice A n c] ∧
  Blk (((((((((W.setCell ⟨Zs,0,none⟩ (.int .i64 s.al)).setCell ⟨Zs,1,none⟩ (.int .i64 s.st)).setCell ⟨Zs,2,none⟩ (.slice A n c)).setCell ⟨Zp,0,none⟩ (.int .i64 p.al)).setCell ⟨Zp,1,none⟩ (.slice B m d)).setCell ⟨Zp,2,none⟩ (.slice B' m' d')).setCell ⟨Zt,0,none⟩ (.int .i64 t.al)).setCell ⟨Zt,1,none⟩ (.int .i64 t.st)).setCell ⟨Zt,2,none⟩ (.slice C k c2)) Zt 39 #[.int .i64 t.al,.int .i64 t.st,.slice C k c2] ∧
  Blk (((((((((W.setCell ⟨Zs,0,none⟩ (.int .i64 s.al)).setCell ⟨Zs,1,none⟩ (.int .i64 s.st)).setCell ⟨Zs,2,none⟩ (.slice A n c)).setCell ⟨Zp,0,none⟩ (.int .i64 p.al)).setCell ⟨Zp,1,none⟩ (.slice B m d)).setCell ⟨Zp,2,none⟩ (.slice B' m' d')).setCell ⟨Zt,0,none⟩ (.int .i64 t.al)).setCell ⟨Zt,1,none⟩ (.int .i64 t.st)).setCell ⟨Zt,2,none⟩ (.slice C k c2)) Zp 26 #[.int .i64 p.al,.slice B m d,.slice B' m' d']):=by
 have f1:=zaw W Zs (.int .i64 s.al) (.int .i64 s.st) (.slice A n c)
 have q1:=zaV zs h1 (.int .i64 s.al) (.int .i64 s.st) (.slice A n c)
 replace h:=h.far zs f1 hz1 (by decide) (by decide)
 replace zt:=zt.frm f1 (by omega)
 replace zp:=zp.frm f1 (by omega)
 clear f1 zs
 generalize ((W.setCell ⟨Zs,0,none⟩ (.int .i64 s.al)).setCell ⟨Zs,1,none⟩ (.int .i64 s.st)).setCell ⟨Zs,2,none⟩ (.slice A n c)=W1 at *
 have f2:=zaw W1 Zp (.int .i64 p.al) (.slice B m d) (.slice B' m' d')
 have q2:=zaV zp h3 (.int .i64 p.al) (.slice B m d) (.slice B' m' d')
 replace h:=h.far zp f2 hz3 (by decide) (by decide)
 replace q1:=q1.frm f2 (by omega)
 replace zt:=zt.frm f2 (by omega)
 clear f2 zp
 generalize ((W1.setCell ⟨Zp,0,none⟩ (.int .i64 p.al)).setCell ⟨Zp,1,none⟩ (.slice B m d)).setCell ⟨Zp,2,none⟩ (.slice B' m' d')=W2 at *
 have f3:=zaw W2 Zt (.int .i64 t.al) (.int .i64 t.st) (.slice C k c2)
 exact⟨za (h.far zt f3 hz2 (by decide) (by decide)),za ⟨q1.frm f3 (by omega),zaV zt h2 _ _ _,q2.frm f3 (by omega)⟩⟩
end
theorem bits_all (y:Nat)(hy:y<64):bits .and .i64 (-1) (y:Int)=(y:Int):=
 (show ∀ y:Fin 64,bits .and .i64 (-1) ((y.val:Nat):Int)=((y.val:Nat):Int) by decide +kernel) ⟨y,hy⟩
theorem yU03a4 {P:Prop}(h:P:=by
 obtain⟨f1,f2⟩:=zgQ (N:=M+600) (sh:=zeT) hxz zhJ hsh.out hr6 hd6 bz rfl hRl (Nat.le_refl _) (Nat.le_refl _)
 have bz5:=bz.dr hd6 (by omega)
 have cZ:=bz5.cell
 have fZ:=bz5.frozen
 go_wp2_with fail
 have cf:=f2.cell
 exact bodyPost_ret (v:=.agg #[.int .i64 b.al,.slice A n c,.slice A' n' c']) (by simp [results,Tryz.results119,go_sem,cf]) rfl f1.out
 ):P:=h
theorem zfc {R M:Nat} {zz:Int} {w:World}(h:Rd w R M)(hM:M≤700000000)(ha:(∃ a:Nat,zz=(a:Int)∧a<64)∨zz = -1) :
  Calls Tryz.prog 119 #[.pointer (some ⟨R,0,none⟩),.int .i64 zz] w (zeU R (M+600) zeT w):=by
 have hRl:=h.lt
 go_enter Tryz.func119,Tryz.ntmps119
 have hxz:=(Ext.refl w).alloc (.cells #[.int .i64 0,.slice none 0 0,.slice none 0 0] 26)
 have bz:=Blk.new w 26 #[.int .i64 0,.slice none 0 0,.slice none 0 0]
 have hsz:(w.alloc (.cells #[.int .i64 0,.slice none 0 0,.slice none 0 0] 26)).heap.size=w.heap.size+1:=by simp
 go_wp2_with fail
 rw [← hsz]
 generalize w.alloc (.cells #[.int .i64 0,.slice none 0 0,.slice none 0 0] 26)=w1 at *
 refine (zaR [63,63,5,3,6] 5 #[.int .i64 63,.int .i64 63,.int .i64 5,.int .i64 3,.int .i64 6] rfl rfl (by omega) (by omega) (h.ext hxz) (by omega)).mono ?_
 rintro e w2 ⟨x,hx,rfl,hr2,hd2⟩
 obtain⟨y,hy,rfl⟩:∃ y:Nat,y<64∧x=(y:Int):=⟨x.toNat,by simp at hx;omega,by simp at hx;omega⟩
 clear hx
 replace hd2:=((Dr.refl R w1).alloc _).trans hd2
 obtain⟨d,hand,hsm⟩:∃ d:Nat,bits .and .i64 zz (y:Int)=(d:Int)∧d<64:=by
  rcases ha with ⟨a,rfl,ha⟩|rfl
  ·exact⟨a&&&y,zdf (by unfold Sm;omega) (by unfold Sm;omega),Nat.lt_of_le_of_lt Nat.and_le_left ha⟩
  ·exact⟨y,bits_all y hy,hy⟩
 go_upto_region 2 with fail
 clear hand
 go_wp2_with fail
 refine (zv hr2 (by omega)).mono ?_
 rintro e w3 ⟨z,rfl,-,-,hr3,hd3⟩
 replace hd3:=hd2.trans hd3
 clear hd2 hr2
 go_upto_if 13 with fail
 go_cut [5] (fun s5 wx=>∃ d:Nat,d<64∧s5=.int .i64 (d:Nat)∧Rd wx R (M+10)∧Dr R w1 wx)
 case first =>
  by_cases hz:z=0
  ·subst hz
   go_wp2_with fail
   refine (spec_l1Some hr3 (by omega)).mono ?_
   rintro e w4 ⟨x,hx,rfl,hr4,hd4⟩
   go_wp2_with fail
   go_meet
   exact⟨x,hx,rfl,hr4.more (by omega),hd3.trans hd4⟩
  ·have hz':((z:Int)==0)=false:=by simp;omega
   go_wp2_with fail
   go_meet
   exact⟨d,hsm,rfl,hr3.more (by omega),hd3⟩
 case rest =>
  clear hr3 hd3 hsm
  obtain⟨d,hd,rfl,hr3,hd3⟩:=hcut
  go_wp2_with fail
  refine (zv hr3 (by omega)).mono ?_
  rintro e w4 ⟨y,rfl,-,-,hr4,hd4⟩
  replace hd4:=hd3.trans hd4
  by_cases hy:0<y
  ·have hy':((y:Int)>0):=by omega
   go_wp2_with fail
   refine (zaR [3,2,4,1] 4 #[.int .i64 3,.int .i64 2,.int .i64 4,.int .i64 1] rfl rfl (by omega) (by omega) hr4 (by omega)).mono ?_
   rintro e w5 ⟨x,hx,rfl,hr5,hd5⟩
   obtain⟨p,hp1,hp2,rfl⟩:∃ y:Nat,1≤y∧y≤4∧x=(y:Int):=⟨x.toNat,by simp at hx;omega,by simp at hx;omega,by simp at hx;omega⟩
   clear hx
   have hd15:=(hd4.alloc _).trans hd5
   go_wp2_with fail
   refine (zfR hr5 (by omega) hd hp1 (by omega)).mono ?_
   intro e w6 hret
   obtain⟨b,A,n,c,A',n',c',rfl,zhJ,hsh,hr6,hd6⟩:=hret.mono (N:=M+600) (sh':=zeT) hd15 (by omega) (fun b hb=>⟨d,p,hd,hp1,by omega,hb⟩)
   exact yU03a4
  ·have hy':¬ ((y:Int)>0):=by omega
   go_wp2_with fail
   refine (zfQ hr4 (by omega) hd).mono ?_
   intro e w6 hret
   obtain⟨b,A,n,c,A',n',c',rfl,zhJ,hsh,hr6,hd6⟩:=hret.mono (N:=M+600) (sh':=zeT) hd4 (by omega) (fun b hb=>hb)
   exact yU03a4
theorem zfT {R M a:Nat} {w:World}(h:Rd w R M)(hM:M≤700000000)(ha:a<64) :
  Calls Tryz.prog 119 #[.pointer (some ⟨R,0,none⟩),.int .i64 a] w (zeU R (M+600) zeT w):=zfc h hM (.inl ⟨a,rfl,ha⟩)
theorem Dr.new {R:Nat} {w w1 w2:World}(h:Ext w w1)(hR:w.heap.size≤R)(hd:Dr R w1 w2):Ext w w2:=
 h.frm hd (fun k hk he=>by omega)
theorem zeO {R M:Nat} {w:World}(h:Rd w R M)(hM:M≤800000000) :
  Calls Tryz.prog 117 #[.pointer (some ⟨R,0,none⟩)] w (RetG R (M+30000) 20000 w):=by
 have hRl:=h.lt
 have hx0:=(Ext.refl w).alloc (.cells #[.int .i64 0,.int .i64 0,.slice none 0 0] 39)
 have bz5:=Blk.new w 39 #[.int .i64 0,.int .i64 0,.slice none 0 0]
 have hr5:=h.ext hx0
 have hw5:=hx0.dr (R:=R)
 have hz1:=bz5.lt
 go_enter Tryz.func117,Tryz.ntmps117
 go_wp2_with fail
 have C6:=(zaR [3,6,7,5,2] 5 #[.int .i64 3,.int .i64 6,.int .i64 7,.int .i64 5,.int .i64 2] rfl rfl (by omega) (by omega) hr5 (by omega))
 simp only [World.size_alloc] at C6
 refine C6.mono ?_
 rintro e w6 ⟨al,hal,rfl,hr6,hd6⟩
 have hw6:=(hw5.ext ((Ext.refl _).alloc _)).trans hd6
 have bz6:=(bz5.ext ((Ext.refl _).alloc _)).dr hd6 (by omega)
 go_wp2_with fail
 refine (zaR [2,3,1,3] 4 #[.int .i64 2,.int .i64 3,.int .i64 1,.int .i64 3] rfl rfl (by omega) (by omega) hr6 (by omega)).mono ?_
 rintro e w7 ⟨st,hst,rfl,hr7,hd7⟩
 have hw7:=(hw6.ext ((Ext.refl _).alloc _)).trans hd7
 have bz7:=(bz6.ext ((Ext.refl _).alloc _)).dr hd7 (by omega)
 go_wp2_with fail
 refine (zaR [2,3,4] 3 #[.int .i64 2,.int .i64 3,.int .i64 4] rfl rfl (by omega) (by omega) hr7 (by omega)).mono ?_
 rintro e w8 ⟨fw,_,rfl,hr8,hd8⟩
 have hw8:=(hw7.ext ((Ext.refl _).alloc _)).trans hd8
 have bz8:=(bz7.ext ((Ext.refl _).alloc _)).dr hd8 (by omega)
 obtain⟨a,rfl,ha⟩:∃ a:Nat,al=a∧a<64:=⟨al.toNat,by simp at hal;omega,by simp at hal;omega⟩
 obtain⟨p,rfl,hp1,hp⟩:∃ p:Nat,st=p∧1≤p∧p≤16:=⟨st.toNat,by simp at hst;omega,by simp at hst;omega,by simp at hst;omega⟩
 clear hal hst
 go_wp2_with fail
 refine (zcD hr8 (by omega) ha hp1 hp).mono ?_
 rintro e w9 ⟨s9,A9,n9,c9,rfl,hs9,hg9,hn9,hr9,hd9⟩
 have bz9:=bz8.dr hd9 (by omega)
 have hfin9:=za (zfj (R:=R) (M:=M+30000) (L:=20000) (c:=c9) hs9 hg9 hn9 (hr9.more (by omega)) (hw8.trans hd9) bz9 hRl (Nat.le_refl _))
 have cz9:=bz9.cell
 have fz9:=bz9.frozen
 go_wp2_with fail
 exact bodyPost_ret (v:=.agg #[.int .i64 s9.al,.int .i64 s9.st,.slice A9 n9 c9]) (by simp [results,Tryz.results117,go_sem,cz9]) rfl hfin9.out
theorem or_al {a b:Nat}(ha:a<64)(hb:b<64):bits .or .i64 (a:Int) (b:Int)=((a|||b:Nat):Int)∧a|||b<64:=by
 have h:=Nat.or_lt_two_pow (n:=6) (x:=a) (y:=b) (by omega) (by omega)
 exact⟨zcr (by unfold Sm;omega) (by unfold Sm;omega),by omega⟩
theorem spec_l9Three {R M:Nat} {w:World}(h:Rd w R M)(hM:M≤600000000) :
  Calls Tryz.prog 69 #[.pointer (some ⟨R,0,none⟩)] w (RetSPT R (M+150000) 20000 16 w):=by
 have hRl:=h.lt
 have hx0:Ext w (((w.alloc (.cells #[.int .i64 0,.int .i64 0,.slice none 0 0] 39)).alloc (.cells #[.int .i64 0,.slice none 0 0,.slice none 0 0] 26)).alloc (.cells #[.int .i64 0,.int .i64 0,.slice none 0 0] 39)):=(((Ext.refl _).alloc _).alloc _).alloc _
 obtain⟨z1,z2,z3⟩:=zV (Ext.refl (((w.alloc (.cells #[.int .i64 0,.int .i64 0,.slice none 0 0] 39)).alloc (.cells #[.int .i64 0,.slice none 0 0,.slice none 0 0] 26)).alloc (.cells #[.int .i64 0,.int .i64 0,.slice none 0 0] 39)))
 have hsz:(((w.alloc (.cells #[.int .i64 0,.int .i64 0,.slice none 0 0] 39)).alloc (.cells #[.int .i64 0,.slice none 0 0,.slice none 0 0] 26)).alloc (.cells #[.int .i64 0,.int .i64 0,.slice none 0 0] 39)).heap.size=w.heap.size+3:=by simp
 go_enter Tryz.func69,Tryz.ntmps69
 go_upto_region 1 with fail
 generalize ((w.alloc (.cells #[.int .i64 0,.int .i64 0,.slice none 0 0] 39)).alloc (.cells #[.int .i64 0,.slice none 0 0,.slice none 0 0] 26)).alloc (.cells #[.int .i64 0,.int .i64 0,.slice none 0 0] 39)=w0 at *
 go_wp2_with fail
 refine (zeO (h.ext hx0) (by omega)).mono ?_
 rintro e w1 ⟨s,A,n,c,rfl,hs1,hg1,hn1,hr1,hd1⟩
 have hw1:=hd1.size
 have hx2:=(Ext.refl w1).alloc (.cells #[.int .i64 s.al,.int .i64 s.st,.slice A n c] 39)
 have bs:=Blk.new w1 39 #[.int .i64 s.al,.int .i64 s.st,.slice A n c]
 have hs2:(w1.alloc (.cells #[.int .i64 s.al,.int .i64 s.st,.slice A n c] 39)).heap.size=w1.heap.size+1:=by simp
 have hd2:Dr R w (w1.alloc (.cells #[.int .i64 s.al,.int .i64 s.st,.slice A n c] 39)):=(hx0.dr.trans hd1).alloc _
 replace hs1:=hs1.ext hx2
 replace hr1:=hr1.ext hx2
 replace z1:=(z1.dr hd1 (by omega)).ext hx2
 replace z2:=(z2.dr hd1 (by omega)).ext hx2
 replace z3:=(z3.dr hd1 (by omega)).ext hx2
 go_upto_region 2 with fail
 generalize hGs:w1.heap.size=Gs at *
 generalize w1.alloc (.cells #[.int .i64 s.al,.int .i64 s.st,.slice A n c] 39)=w2 at *
 clear hx2
 go_wp2_with fail
 refine (zeO hr1 (by omega)).mono ?_
 rintro e w3 ⟨t,C,k,c2,rfl,ht1,hg2,hn2,hr3,hd3⟩
 have hw3:=hd3.size
 have hx4:=(Ext.refl w3).alloc (.cells #[.int .i64 t.al,.int .i64 t.st,.slice C k c2] 39)
 have bt:=Blk.new w3 39 #[.int .i64 t.al,.int .i64 t.st,.slice C k c2]
 have ht2:Tri w (w3.alloc (.cells #[.int .i64 t.al,.int .i64 t.st,.slice C k c2] 39)) R (M+60000) 20000 16 w.heap.size (w.heap.size+1+1) (w.heap.size+1) Gs w3.heap.size 0 s A n c t C k c2 autZ none 0 0 none 0 0:=
  ⟨⟨(hs1.dr hd3).ext hx4,ht1.ext hx4,zhg _ _,⟨hn1,hn2⟩,za (bd_autZ _),(hr3.ext hx4).more (by omega),(hd2.trans hd3).ext hx4,hRl⟩,(z1.dr hd3 (by omega)).ext hx4,(z3.dr hd3 (by omega)).ext hx4,(z2.dr hd3 (by omega)).ext hx4,(bs.dr hd3 (by omega)).ext hx4,bt,.inl rfl,by omega,za (by unfold Ne6;omega)⟩
 clear hs1 hr1 z1 z2 z3 bs bt ht1 hx4 hd2
 go_upto_region 3 with fail
 generalize hGt:w3.heap.size=Gt at *
 generalize w3.alloc (.cells #[.int .i64 t.al,.int .i64 t.st,.slice C k c2] 39)=w4 at *
 have hne:Hid (Gs<Gt∧w.heap.size+3≤Gs):=za (by omega)
 clear hw1 hw3 hd1 hd3 hr3 hn1 hn2 hs2 hGs hGt
 go_wp2_with fail
 refine (zv ht2.at_.rd (by omega)).mono ?_
 rintro e w5 ⟨y,rfl,-,-,hr5,hd5⟩
 have ht3:=(ht2.drawn hd5 hr5).more (N:=M+60001) (J:=20000) (H:=16) (by omega) (by omega) (by omega)
 clear ht2
 go_upto_if 13 with fail
 go_cut [] (fun wx=>∃ (s:Sys) (A:Option Addr) (n c:Nat),Good s∧Tri w wx R (M+60001+30000) 20000 16 w.heap.size (w.heap.size+1+1) (w.heap.size+1) Gs Gt 0 s A n c t C k c2 autZ none 0 0 none 0 0)
 case first =>
  by_cases hy:y=0
  ·subst hy
   go_wp2_with fail
   refine (zfP hr5 (by omega)).mono ?_
   rintro e w6 ⟨s',A',n',c',rfl,hs',hg',hn',hr6,hd6⟩
   have ht4:=(ht3.drawn hd6 hr6).more (N:=M+60001+30000) (J:=20000) (H:=16) (by omega) (by omega) (by omega)
   have cG:=ht4.bs.cell
   have fG:=ht4.bs.frozen
   have fin:=ht4.setS hs' hn'
   go_wp2_with fail
   go_meet
   exact⟨_,_,_,_,hg',fin⟩
  ·have hy':((y:Int)==0)=false:=by simp;omega
   go_wp2_with fail
   go_meet
   exact⟨_,_,_,_,hg1,ht3.more (by omega) (by omega) (by omega)⟩
 case rest =>
  clear ht3 hr5 hd5 hg1
  obtain⟨s,A,n,c,hg1,ht3⟩:=hcut
  go_wp2_with fail
  refine (zv ht3.at_.rd (by omega)).mono ?_
  rintro e w5 ⟨y,rfl,-,-,hr5,hd5⟩
  have ht4:=(ht3.drawn hd5 hr5).more (N:=M+100000) (J:=20000) (H:=16) (by omega) (by omega) (by omega)
  clear ht3
  go_upto_if 18 with fail
  go_cut [] (fun wx=>∃ (t:Sys) (C:Option Addr) (k c2:Nat),Good t∧Tri w wx R (M+100000+30000) 20000 16 w.heap.size (w.heap.size+1+1) (w.heap.size+1) Gs Gt 0 s A n c t C k c2 autZ none 0 0 none 0 0)
  case first =>
   by_cases hy:y=0
   ·subst hy
    go_wp2_with fail
    refine (zfP ht4.at_.rd (by omega)).mono ?_
    rintro e w6 ⟨s',A',n',c',rfl,hs',hg',hn',hr6,hd6⟩
    have ht5:=(ht4.drawn hd6 hr6).more (N:=M+100000+30000) (J:=20000) (H:=16) (by omega) (by omega) (by omega)
    have cG:=ht5.bt.cell
    have fG:=ht5.bt.frozen
    have fin:=ht5.setT hs' hn'
    go_wp2_with fail
    go_meet
    exact⟨_,_,_,_,hg',fin⟩
   ·have hy':((y:Int)==0)=false:=by simp;omega
    go_wp2_with fail
    go_meet
    exact⟨_,_,_,_,hg2,ht4.more (by omega) (by omega) (by omega)⟩
  case rest =>
   clear ht4 hr5 hd5 hg2
   obtain⟨t,C,k,c2,hg2,ht4⟩:=hcut
   obtain⟨a1,p1,ha1,ha1',-⟩:=hg1
   obtain⟨a2,p2,ha2,ha2',-⟩:=hg2
   obtain⟨hor,hol⟩:=or_al ha1' ha2'
   obtain⟨wE,hwE⟩:∃ wE,wE=wc:=⟨_,rfl⟩
   subst hwE
   have hge:=za ht4.ge
   have hRw:=ht4.at_.hR
   have cS:∀ W,Frm (fun k=>k=R∨k=w.heap.size∨k=w.heap.size+1) wE W→∀ q,W.cell? ⟨Gs,q,none⟩=#[Value.int .i64 a1,.int .i64 s.st,.slice A n c][q]?:=fun W hW=>by rw [← ha1];exact (ht4.bs.frm hW (by have:=hge.out;have:=hne.out;omega)).cell
   have cT:∀ W,Frm (fun k=>k=R∨k=w.heap.size∨k=w.heap.size+1) wE W→∀ q,W.cell? ⟨Gt,q,none⟩=#[Value.int .i64 a2,.int .i64 t.st,.slice C k c2][q]?:=fun W hW=>by rw [← ha2];exact (ht4.bt.frm hW (by have:=hge.out;have:=hne.out;omega)).cell
   have hS0:Frm (fun k=>k=R∨k=w.heap.size∨k=w.heap.size+1) wE wE.drew:=(Ext.refl wE).drew.toFrm
   have hsal:=za ha1
   have htal:=za ha2
   clear ha1 ha2
   go_wp2_with fail
   refine tR (fun X=>Frm (fun k=>k=R∨k=w.heap.size∨k=w.heap.size+1) wE X) [11] (Ord.of [0,1,2,3,4,5,6,8,7,9,10,11]) ?_
   refine tQ ?_
   refine zG fun K hK=>?_;go_simp
   refine (zfT (ht4.at_.rd.ext (Ext.refl wE).drew) (by omega) hol).mono ?_
   rintro e w7 ⟨p,B,m,d,B',m',d',rfl,hp,hgp,hr7,hd7⟩
   have hd17:Dr R wE w7:=(Dr.refl R wE).drew.trans hd7
   have ht5:=(ht4.drawn hd17 hr7).more (N:=M+150000) (J:=20000) (H:=16) (by omega) (by omega) (by omega)
   have hS7:Frm (fun k=>k=R∨k=w.heap.size∨k=w.heap.size+1) wE w7:=hd17.mono (fun k _ hk=>.inl hk)
   refine hK.out _ _ hS7 ?_
   refine pT ?_
   refine tQ ?_
   have hsz7:=hd17.size
   have hRE:=ht4.at_.rd.lt
   have cs:=ht5.zs.cell
   have ct:=ht5.zt.cell
   have cp:=ht5.zp.cell
   have fs:=ht5.zs.frozen
   have ft:=ht5.zt.frozen
   have fp:=ht5.zp.frozen
   obtain⟨f1,f2⟩:=zbg.finSPT ({ ht5.at_ with ip:=hp.less (by simp;omega),bd:=za (BdA.of hgp.out) }) ht5.zs ht5.zt ht5.zp rfl rfl rfl (by omega) (by omega) (by omega) (by omega) (by omega) (by omega)
   rw [hsal.out,htal.out] at f1 f2
   refine zG fun K hK=>?_;go_simp
   have hS8:=hS7.trans ((zaw w7 w.heap.size (.int .i64 a1) (.int .i64 s.st) (.slice A n c)).mono (T:=fun k=>k=R∨k=w.heap.size∨k=w.heap.size+1) (fun k _ hk=>.inr (.inl hk)))
   refine hK.out _ _ hS8 ?_
   refine pT ?_
   refine zG fun K hK=>?_;go_simp
   have hS9:=hS8.trans ((zaw _ (w.heap.size+1) (.int .i64 p.al) (.slice B m d) (.slice B' m' d')).mono (T:=fun k=>k=R∨k=w.heap.size∨k=w.heap.size+1) (fun k _ hk=>.inr (.inr hk)))
   refine hK.out _ _ hS9 ?_
   refine pT ?_
   refine zal fun K hK=>?_
   go_simp
   refine hK.out _ _ ?_
   refine zay ?_
   go_wp2_with fail
   obtain⟨g1,g2,g3⟩:=f2.out
   have c1:=g1.cell
   have cc2:=g2.cell
   have c3:=g3.cell
   exact bodyPost_ret (v:=.tuple #[.agg #[.int .i64 a1,.int .i64 s.st,.slice A n c],.agg #[.int .i64 p.al,.slice B m d,.slice B' m' d'],.agg #[.int .i64 a2,.int .i64 t.st,.slice C k c2]]) (by simp [results,Tryz.results69,go_sem,c1,cc2,c3]) rfl ⟨s,A,n,c,t,C,k,c2,p,B,m,d,B',m',d',by rw [hsal.out,htal.out],f1.out⟩
end Go.Proofs.YtfcjhpodichpjaaGreatDoor
