/- The referenc -/
import Derived.Test.YtfcjhpodichpjaaGreatDoorU07
import Derived.Test.YtfcjhpodichpjaaGreatDoorU03
set_option maxHeartbeats 2000000
set_option maxRecDepth 100000
namespace Go.Proofs.YtfcjhpodichpjaaGreatDoor
open Go Go.RowKit
noncomputable def autRow (L:Nat) (f:ByteArray→Bool) (rows cols:List ByteArray) (r:ByteArray):List Int:=(letters L 6).map fun l=>((idxS (zbl f cols rows) (mkS (zcI f cols (r++zdZ l))):Nat):Int)
noncomputable def zgu (L:Nat) (f:ByteArray→Bool) (rows cols:List ByteArray):Aut:=⟨(L:Int),rows.map (autRow L f rows cols),rows.map f⟩
theorem open_none {L:Nat} {f:ByteArray→Bool} {rows cols:List ByteArray}(h:zbk L f rows cols=none) {r:ByteArray} {l:Nat}(hr:r∈rows)(hl:l∈letters L 6):mkS (zcI f cols (r++zdZ l))∈zbl f cols rows:=by
 unfold zbk at h
 rw [List.find?_eq_none] at h
 have:=h (r++zdZ l) (List.mem_flatMap.2 ⟨r,hr,List.mem_map.2 ⟨l,hl,rfl⟩⟩)
 simp only [Bool.not_eq_true',Bool.not_eq_false] at this
 exact zdi.1 this
theorem mkS_head (b:Bool) (r:List Bool):∃ h:0<(mkS (b :: r)).size,((((mkS (b :: r))[0]'h).toNat:Int)==43)=b:=by
 have h0:0<(mkS (b :: r)).size:=by rw [mkS_size];simp
 refine⟨h0,?_⟩
 have h1:=zaB (mkS (b :: r)) 0 h0
 rw [zfg,List.map_cons,List.getElem?_cons_zero] at h1
 have h2:=Option.some.inj h1
 rw [← h2]
 cases b<;>rfl
theorem rowM_head {L:Nat} {f:ByteArray→Bool} {rows cols:List ByteArray}(h:zcH L f rows cols) (x:ByteArray):∃ r,zcI f cols x=f x :: r:=by
 have h0:=h.c0
 match cols,h0 with
 |c :: cs,h0 =>
  simp at h0
  subst h0
  refine⟨cs.map fun c=>f (x++c),?_⟩
  unfold zcI
  rw [List.map_cons]
  congr 1
  exact congrArg f (ByteArray.append_empty)
section
variable {w0 W W':World} {G:Nat} {al:Int} {v vA:Value} {ls:List (List Int)} {acc:List Bool}
theorem Gra.pushAcc {x:Bool} {g cap:Nat}(h:Gra w0 W G al v ls vA acc)
  (zhJ:W'.ownsRow w0.heap.size 4 1 (.slice (some ⟨g,0,none⟩) (acc.length+1) cap) (acc.length+1) (zas acc++[.bool x]))
  (hg:W.grownBy W' vA.ownBlock) (hat:vA.ownBlock=some g∨g=W.heap.size+1) :
  Hid (W'.cell? ⟨G,2,none⟩=some vA)∧W'.frozen? ⟨G,2,none⟩=false∧Gra w0 (W'.setCell ⟨G,2,none⟩ (.slice (some ⟨g,0,none⟩) (acc.length+1) cap)) G al v ls (.slice (some ⟨g,0,none⟩) (acc.length+1) cap) (acc++[x]):=by
 have hGG:=h.hG
 have hB:Blk W' G 26 #[.int .i64 al,v,vA]:=(hg.block G h.blk.lt (fun e=>zk h.acc h.blk (by decide) e.symm rfl)).trans h.blk
 have hgG:g≠G:=by
  rcases hat with h1|h1
  ·exact zk h.acc h.blk (by decide) h1
  ·have:=h.blk.lt;omega
 have hx':Ext w0 W':=h.ext.grown hg (fun k hk=>(h.acc.lt k hk).1)
 have hfr:Frm (fun k=>vA.ownBlock=some k) W W':=Frm.of_grown hg
 obtain⟨rows,hn0,hr0⟩:=h.own
 have hn:W'.ownsRow w0.heap.size 74 1 v ls.length rows:=zd hn0 hfr (fun b hb hS=>zaq hn0 h.acc (by decide) hb hS)
 have hr2:zy W' w0.heap.size rows ls:=hr0.frm hfr (fun i r b hr hb hS=>by
  obtain⟨l',_,ho⟩:=hr0.row hr
  exact zaq ho h.acc (by decide) hb hS)
 have hset:=Frm.setCell W' G 2 (.slice (some ⟨g,0,none⟩) (acc.length+1) cap)
 refine⟨hB.cell 2,hB.frozen 2,⟨by simpa using hB.set_ 2 _,⟨rows,zd hn hset (fun b hb hS=>zk hn hB (by decide) hb hS),hr2.frm hset (fun i r b hr hb hS=>?_)⟩,?_,hx'.setCell (p:=⟨G,2,none⟩) hGG _,hGG⟩⟩
 ·obtain⟨l',_,ho⟩:=hr2.row hr
  exact zk ho hB (by decide) hb hS
 ·rw [List.length_append,List.length_singleton,show zas (acc++[x])=zas acc++[.bool x] by simp [zas]]
  exact zd zhJ hset (fun b hv hS=>by
   have:g=b:=by simpa [Value.ownBlock] using hv
   omega)
end
theorem Frm.grown {S:Nat→Prop} {a w w':World} {row:Option Nat}(h:Frm S a w)(hg:w.grownBy w' row)(hr:∀ k,row=some k→a.heap.size≤k):Frm S a w':=
 ⟨hg.os.trans h.os,hg.tape.trans h.tape,hg.output.trans h.output,Nat.le_trans h.size hg.size,fun k hk hS=>(hg.block k (Nat.lt_of_lt_of_le hk h.size) (fun e=>by have:=hr k e.symm;omega)).trans (h.block k hk hS)⟩
def RetAutB (w:World) (a:Aut) (e:Ending) (w':World):Prop:=
 ∃ A n c A' n' c',e=.returned (.tuple #[.agg #[.int .i64 a.al,.slice A n c,.slice A' n' c'],.bool true])∧zO w' w.heap.size A n c A' n' c' a∧Ext w w'
section
variable {w W:World} {n c m d m' d' L:Nat} {A B B':Option Addr} {s:Sys} {p:Aut} {nr nc cr cc:Nat} {R C:Option Addr} {rows cols:List ByteArray}
theorem zbQ (h:Tch w A n B m B' m' s p L)(hT:TabAt w R nr C nc rows cols)(hI:zcH L (zu s p L) rows cols)(hcr:nr≤cr)(hcc:nc≤cc)(hcl:zbk L (zu s p L) rows cols=none) :
  Calls Tryz.prog 193 #[.agg #[.bool false,.int .i64 0,.slice none 0 0,.slice none 0 0,.int .i64 s.al,.int .i64 s.st,.slice A n c,.int .i64 p.al,.slice B m d,.slice B' m' d',.int .i64 L],.agg #[.slice R nr cr,.slice C nc cc]] w (RetAutB w (zgu L (zu s p L) rows cols)):=by
 obtain⟨e1,e2⟩:=hT.nr
 have hr12:=hI.r12;have hc20:=hI.c20
 rw [e1] at hr12
 rw [e2] at hc20
 have HCl:=za (fun W (hW:Ext w W)=>zfa (c:=c) (d:=d) (d':=d') (h.ext hW) (hT.ext hW) hI hcr hcc hcl)
 have HA:=za (fun W (hW:Ext w W)=>zax (c:=c) (d:=d) (d':=d') (h.ext hW))
 obtain⟨lo,hi,lo2,hi2,h1,h2⟩:=hT
 have HR:=za (fun W (hW:Ext w W)=>zcW (c:=c) (d:=d) (d':=d') (cc:=cc) (cr:=cr) (h.ext hW) (h2.ext hW) (h1.ext hW) (by omega) (by omega) hI.rsz'.2 hI.rsz'.1)
 have HW:=za (fun W (hW:Ext w W) (y:ByteArray) hy=>zdT (c:=c) (d:=d) (d':=d') (cc:=cc) (x:=y) (h.ext hW) (h2.ext hW) (by omega) hy hI.rsz'.2)
 have H1:=za (fun W (hW:Ext w W)=>h1.ext hW)
 have hL:=h.lt
 have Hin:=za (fun x hx=>hI.rin (x:=x) hx)
 have Hop:=za (fun (r:ByteArray) (l:Nat) hr hl=>open_none (r:=r) (l:=l) hcl hr hl)
 have Hhd:=za (fun x=>rowM_head hI x)
 have hlen:(zbl (zu s p L) cols rows).length=nr:=by rw [zbl,List.length_map];exact e1
 have hzs:∀ (i:Nat) (r:ByteArray),rows[i]?=some r→(zbl (zu s p L) cols rows)[i]?=some (mkS (zcI (zu s p L) cols r)):=fun i r hr=>by rw [zbl,List.getElem?_map,hr];rfl
 have Hzs:=za hzs
 have Haut:=za (show zgu L (zu s p L) rows cols=⟨(L:Int),rows.map (autRow L (zu s p L) rows cols),rows.map (zu s p L)⟩ from rfl)
 have Hrow:=za (fun r=>show autRow L (zu s p L) rows cols r=(letters L 6).map fun l=>((idxS (zbl (zu s p L) cols rows) (mkS (zcI (zu s p L) cols (r++zdZ l))):Nat):Int) from rfl)
 generalize zgu L (zu s p L) rows cols=aut at *
 generalize autRow L (zu s p L) rows cols=arow at *
 generalize zbl (zu s p L) cols rows=zs at *
 have Hlen:=za hlen
 have He:=za e1
 have hx0:Ext w (((w.alloc (.cells #[.bool false,.int .i64 0,.slice none 0 0,.slice none 0 0,.int .i64 s.al,.int .i64 s.st,.slice A n c,.int .i64 p.al,.slice B m d,.slice B' m' d',.int .i64 L] 203)).alloc (.cells #[.slice R nr cr,.slice C nc cc] 205)).alloc (.cells #[.int .i64 0,.slice none 0 0,.slice none 0 0] 26)):=(((Ext.refl _).alloc _).alloc _).alloc _
 obtain⟨b1,b2,b3⟩:=zV (Ext.refl (((w.alloc (.cells #[.bool false,.int .i64 0,.slice none 0 0,.slice none 0 0,.int .i64 s.al,.int .i64 s.st,.slice A n c,.int .i64 p.al,.slice B m d,.slice B' m' d',.int .i64 L] 203)).alloc (.cells #[.slice R nr cr,.slice C nc cc] 205)).alloc (.cells #[.int .i64 0,.slice none 0 0,.slice none 0 0] 26)))
 clear h h1 h2 hI e1 e2 hlen hzs hcl
 go_enter Tryz.func193,Tryz.ntmps193
 go_upto_region 1 with fail
 generalize ((w.alloc (.cells #[.bool false,.int .i64 0,.slice none 0 0,.slice none 0 0,.int .i64 s.al,.int .i64 s.st,.slice A n c,.int .i64 p.al,.slice B m d,.slice B' m' d',.int .i64 L] 203)).alloc (.cells #[.slice R nr cr,.slice C nc cc] 205)).alloc (.cells #[.int .i64 0,.slice none 0 0,.slice none 0 0] 26)=w0 at *
 have CB:=b1.cells
 have CT:=b2.cells
 have hb3:=b3.lt
 have hww:=Ext.refl w0
 go_upto_region 4 with (first
  |(go_at_call 227;refine (HCl.out _ hx0).mono ?_;rintro e w1 ⟨rfl,hx01⟩)
  |(go_at_call 228;refine (HA.out _ (hx0.trans hx01)).mono ?_;rintro e w2 ⟨rfl,hx12⟩;have hx02:=hx01.trans hx12))
 have hs2:=hx02.size
 have hxG:=(Ext.refl w2).alloc (.cells #[.int .i64 (L:Nat),.slice none 0 0,.slice none 0 0] 26)
 have hgra:Gra w2 (w2.alloc (.cells #[.int .i64 (L:Nat),.slice none 0 0,.slice none 0 0] 26)) w2.heap.size (L:Nat) (.slice none 0 0) [] (.slice none 0 0) []:=
  ⟨Blk.new w2 _ _,⟨[],World.ownsRow_nil _ _ _ _,zy.nil _ _⟩,World.ownsRow_nil _ _ _ _,hxG,Nat.le_refl _⟩
 clear hxG
 generalize hG:w2.heap.size=G at *
 generalize w2.alloc (.cells #[.int .i64 (L:Nat),.slice none 0 0,.slice none 0 0] 26)=w3 at *
 have HG:=za hG
 clear hG
 have k3:=hgra.blk.cell
 have hx03:Ext w0 w3:=hx02.trans hgra.ext
 have CB3:∀ W,Ext w3 W→∀ q,W.cell? ⟨w.heap.size,q,none⟩=#[Value.bool false,.int .i64 0,.slice none 0 0,.slice none 0 0,.int .i64 s.al,.int .i64 s.st,.slice A n c,.int .i64 p.al,.slice B m d,.slice B' m' d',.int .i64 L][q]?:=fun W hW=>CB W (hx03.trans hW)
 have CT3:∀ W,Ext w3 W→∀ q,W.cell? ⟨w.heap.size+1,q,none⟩=#[Value.slice R nr cr,.slice C nc cc][q]?:=fun W hW=>CT W (hx03.trans hW)
 go_wp2_with (first
  |(go_at_call 61;refine (zJ L (by unfold Sm;omega) _).mono ?_;rintro e w4 ⟨HL,hc,rfl,hownL,hx34⟩)
  |(go_at_call 229;refine (HR.out _ (hx0.trans (hx03.trans hx34))).mono ?_;rintro e w5 ⟨ZA,zc,rfl,hownZ,hx45⟩;have hx35:=hx34.trans hx45))
 have hrdZ:=Reads.of_own hownZ
 rw [Hlen.out] at hrdZ
 have HZ:=za (fun W (hW:Ext w5 W)=>hrdZ.ext hW)
 have hownL5:=ze hownL hx45
 have HLet:=za (fun W (hW:Ext w5 W)=>ze hownL5 hW)
 have Hown3:=za (fun b hb=>(hownL.lt b hb).1)
 have hG3:=za (hgra.blk.lt)
 have hs34:=za hx34.size
 have hlm:=za (fun l (hl:l∈letters L 6)=>(zX.1 hl).1)
 have hls:(letters L 6).length≤6:=zq L 6
 have hx05:Ext w0 w5:=hx03.trans hx35
 have hgra5:=hgra.ext_ hx35
 generalize letters L 6=ls0 at *
 have hzl:=Hlen.out
 rw [Hlen.out] at hownZ ⊢
 have HZo:=za hownZ
 have HownZ:=za (fun b hb=>(hownZ.lt b hb).1)
 clear hownL hownL5 hrdZ hownZ hx34 hx45 k3 hgra CB3 CT3 hww
 go_loopw [9] (fun iv wr=>∃ (i:Nat) (v vA:Value),iv=.int .i64 i∧i≤nr∧Gra w2 wr G (L:Nat) v ((rows.take i).map arow) vA ((rows.take i).map (zu s p L))∧Hid (∀ b,v.ownBlock=some b→w5.heap.size≤b)∧Hid (∀ b,vA.ownBlock=some b→w5.heap.size≤b)∧Frm (fun k=>k=G) w5 wr) (fun iv _=>nr - (intOf iv).toNat)
 case atStart=>exact⟨0,_,_,rfl,Nat.zero_le _,by simpa using hgra5,za (fun b hb=>by simp [Value.ownBlock] at hb),za (fun b hb=>by simp [Value.ownBlock] at hb),Frm.refl _ _⟩
 case round =>
  obtain⟨i,v,vA,rfl,hi,hgra,hvb,hvA,hfr⟩:=hrel
  have hx2r:=hgra.ext
  have hGw:=hgra.blk.lt
  have CBr:∀ W,Ext wr W→∀ q,W.cell? ⟨w.heap.size,q,none⟩=#[Value.bool false,.int .i64 0,.slice none 0 0,.slice none 0 0,.int .i64 s.al,.int .i64 s.st,.slice A n c,.int .i64 p.al,.slice B m d,.slice B' m' d',.int .i64 L][q]?:=fun W hW=>CB W ((hx02.trans hx2r).trans hW)
  have CTr:∀ W,Ext wr W→∀ q,W.cell? ⟨w.heap.size+1,q,none⟩=#[Value.slice R nr cr,.slice C nc cc][q]?:=fun W hW=>CT W ((hx02.trans hx2r).trans hW)
  by_cases hlt:i<nr
  ·have hlt':(i:Int)<(nr:Int):=by omega
   obtain⟨ad,r,rfl,_,_,hr,cr0⟩:=(H1.out wr (hx0.trans (hx02.trans hx2r))).str hlt
   have CR:∀ W,Ext wr W→W.cell? (ad.add i)=some (.string r):=fun W hW=>hW.cell_some cr0
   have hrs:=(Hin.out r (List.mem_of_getElem? hr.out)).2
   have hrmem:=za (List.mem_of_getElem? hr.out)
   have hown0:(wr.alloc (.cells #[] 3)).ownsRow wr.heap.size 3 1 (.slice (some ⟨wr.heap.size,0,none⟩) 0 0) 0 (ints []):=World.ownsRow_lit wr #[] 0 (Nat.le_refl _) (by unfold maxLen;omega) rfl
   have hxa:=(Ext.refl wr).alloc (.cells #[] 3)
   clear cr0
   obtain⟨wo,hwo⟩:∃ wo,wo=wr:=⟨_,rfl⟩
   subst hwo
   go_wp2_with fail
   go_loopw [10,11] (fun v10 kv wr=>∃ k:Nat,kv=.int .i64 k∧k≤ls0.length∧wr.ownsRow wo.heap.size 3 1 v10 k (ints ((arow r).take k))∧Ext wo wr) (fun _ kv _=>ls0.length - (intOf kv).toNat)
   case atStart=>exact⟨0,rfl,Nat.zero_le _,by simpa [ints] using hown0,hxa⟩
   case round =>
    clear hown0 hxa
    obtain⟨k,rfl,hk,zhJ,hxq⟩:=hrel
    by_cases hkl:k<ls0.length
    ·have hkl':(k:Int)<(ls0.length:Int):=by omega
     obtain⟨l,hl⟩:∃ l,ls0[k]?=some l:=⟨_,List.getElem?_eq_getElem hkl⟩
     have hl6:=hlm.out l (List.mem_of_getElem? hl)
     have hlmem:=za (List.mem_of_getElem? hl)
     have hownL2:=zd (HLet.out w5 (Ext.refl _)) (hfr.trans hxq.toFrm) (fun b hb e=>by have:=hG3.out;have:=Hown3.out b hb;omega)
     have hownZ2:=zd HZo.out (hfr.trans hxq.toFrm) (fun b hb e=>by have:=hG3.out;have:=hs34.out;have:=HownZ.out b hb;omega)
     obtain⟨gl,rfl,hgl,-⟩:=zP hownL2 (by omega)
     have cl:=zcv hownL2 hkl
     rw [List.getD_eq_getElem?_getD,hl,Option.getD_some] at cl
     have CL:∀ W,Ext wr W→W.cell? ⟨gl,k,none⟩=some (.int .i64 (l:Nat)):=fun W hW=>hW.cell_some cl
     have CR2:∀ W,Ext wr W→W.cell? (ad.add i)=some (.string r):=fun W hW=>CR W (hxq.trans hW)
     have CT2:∀ W,Ext wr W→∀ q,W.cell? ⟨w.heap.size+1,q,none⟩=#[Value.slice (some ad) nr cr,.slice C nc cc][q]?:=fun W hW=>CTr W (hxq.trans hW)
     have CB2:∀ W,Ext wr W→∀ q,W.cell? ⟨w.heap.size,q,none⟩=#[Value.bool false,.int .i64 0,.slice none 0 0,.slice none 0 0,.int .i64 s.al,.int .i64 s.st,.slice A n c,.int .i64 p.al,.slice B m d,.slice B' m' d',.int .i64 L][q]?:=fun W hW=>CBr W (hxq.trans hW)
     have HT:=za (fun W=>zcX (w:=W) hl6)
     have Hl:=za hl
     have hmemz:=za (Hop.out r l hrmem.out hlmem.out)
     obtain⟨z,hz⟩:∃ z,Hid (zdZ l=z):=⟨_,rfl⟩
     rw [hz.out] at HT
     have hz1:z.size=1:=by rw [← hz.out];exact zcP l
     have hsz:¬ 9223372036854775807<r.size+1:=by omega
     have HWr:=za (fun W (hW:Ext wr W)=>HW.out W ((hx0.trans (hx02.trans (hx2r.trans hxq))).trans hW) (r++z) (by rw [ByteArray.size_append];omega))
     have hrdz:=Reads.of_own hownZ2
     have HIx:=za (fun W (hW:Ext wr W)=>zhq (c:=zc) (hrdz.ext hW) hmemz.out)
     rw [hz.out] at HIx
     have hrowk:=za (show (arow r)[k]?=some ((idxS zs (mkS (zcI (zu s p L) cols (r++z))):Nat):Int) by rw [Hrow.out,List.getElem?_map,hl,← hz.out];rfl)
     obtain⟨y,hy⟩:∃ y,r++z=y:=⟨_,rfl⟩
     rw [hy] at HWr HIx hrowk
     obtain⟨I,hI⟩:∃ I,Hid (idxS zs (mkS (zcI (zu s p L) cols y))=I):=⟨_,rfl⟩
     rw [hI.out] at HIx hrowk
     generalize mkS (zcI (zu s p L) cols y)=ys at *
     have hst:=za (show ints ((arow r).take (k+1))=ints ((arow r).take k)++[.int .i64 (I:Nat)] by rw [List.take_add_one,hrowk.out];simp [ints])
     have hww:=Ext.refl wr
     clear hl cl hrdz hownL2 hownZ2
     go_wp2_with fail
     refine uR (fun X=>Ext wr X) [19] (zK.of [0,1,2,3,4,5,6,7,8,9,10,11,12,13,14,15,16,17,18,19,20]) ?_
     refine uQ ?_
     refine zb fun K hK=>?_;go_simp
     refine (HT.out _).mono ?_
     rintro e w6 ⟨rfl,hx6⟩
     have hxr6:Ext wr w6:=hww.drew.trans hx6
     refine hK.out _ _ hxr6 ?_
     refine pT ?_
     refine uQ ?_
     refine zb fun K hK=>?_;go_simp
     with_reducible refine (HWr.out _ hxr6).mono ?_
     rintro e w7 ⟨rfl,hx7⟩
     have hxr7:=hxr6.trans hx7
     refine hK.out _ _ hxr7 ?_
     refine pT ?_
     refine uQ ?_
     refine zb fun K hK=>?_;go_simp
     with_reducible refine (HIx.out _ hxr7).mono ?_
     rintro e w8 ⟨rfl,rfl⟩
     refine hK.out _ _ hxr7 ?_
     refine pT ?_
     refine uQ ?_
     refine zb fun K hK=>?_;go_simp
     refine hK.out _ _ (hxr7.alloc _) ?_
     refine pT ?_
     refine zg fun K hK=>?_
     refine zaC wo w7 _ _ _ rfl 3 _ 1 8 Tryz.underlying74 zac rfl (by decide) _ k (ints ((arow r).take k)) _ _ rfl rfl (hxq.trans hxr7).size (ze zhJ hxr7) rfl (zbv _) (by unfold maxLen;omega) (by omega) ?_
     intro g9 cap9 w9 hown9 hg9 hat9 hlt9
     refine hK.out _ _ ?_
     refine pT ?_
     refine uQ ?_
     refine zj ?_
     clear hy
     go_wp2_with fail
     go_roundw
     case rel=>exact⟨k+1,by go_num,by omega,by rw [hst.out];exact hown9,(hxq.trans hxr7).grown hg9 (fun k hk=>(zhJ.lt k hk).1)⟩
     case measure=>simp [intOf];omega
    ·have hge:(ls0.length:Int)≤(k:Int):=by omega
     have hfull:=za (show (arow r).take k=arow r from List.take_of_length_le (by rw [Hrow.out,List.length_map];omega))
     rw [hfull.out] at zhJ
     obtain⟨A1,c1,rfl⟩:=zf zhJ
     have hkl2:=za (show k=(arow r).length by rw [Hrow.out,List.length_map];omega)
     obtain⟨rws,hnx,hrws⟩:=hgra.own
     have hli:=za (show ((rows.take i).map arow).length=i by rw [List.length_map,List.length_take];have:=He.out;omega)
     have hla:=za (show ((rows.take i).map (zu s p L)).length=i by rw [List.length_map,List.length_take];have:=He.out;omega)
     rw [hli.out] at hnx
     have hgraq:=hgra.ext_ hxq
     have kG:=hgraq.blk.cell
     have hsq:=za (hgraq.ext.size)
     have hnxq:=ze hnx hxq
     have hHr:=za hrws
     have HO:=za (show wr.ownsRow wo.heap.size 3 1 (.slice A1 k c1) (arow r).length (ints (arow r)) by rw [← hkl2.out];exact zhJ)
     clear zhJ
     go_upto_region 15 with (at_builtin;refine zab w2 wr rfl _ _ _ rfl 74 _ 1 24 Tryz.underlying23 zbj rfl (by decide) v i rws _ _ rfl rfl hsq.out hnxq rfl (zat _ _ _) (by unfold maxLen;omega) (by omega) ?_;intro g6 cap6 w6 hown6 hg6 hat6 hlt6;obtain⟨q1,q2,q3⟩:=hgra.push (l:=arow r) (row:=.slice A1 k c1) hHr.out (by rw [hli.out];exact hnx) hxq HO.out (by rw [hli.out];exact hown6) hg6 hat6;have q1':=q1.out)
     have hf7:Frm (fun k=>k=G) w5 (w6.setCell ⟨G,1,none⟩ (.slice (some ⟨g6,0,none⟩) (((rows.take i).map arow).length+1) cap6)):=((hfr.trans hxq.toFrm).grown hg6 (fun k hk=>hvb.out k hk)).trans (Frm.setCell w6 G 1 _)
     have hvb7:=za (show ∀ b,(Value.slice (some ⟨g6,0,none⟩) (((rows.take i).map arow).length+1) cap6).ownBlock=some b→w5.heap.size≤b from fun b hb=>by
      have hbb:g6=b:=by simpa [Value.ownBlock] using hb
      subst hbb
      rcases hat6 with h1|h1
      ·exact hvb.out _ h1
      ·have:=hxq.size;have:=hfr.size;omega)
     have hls7:=za (show (rows.take (i+1)).map arow=(rows.take i).map arow++[arow r] by rw [List.take_add_one,hr.out];simp)
     have hac7:=za (show (rows.take (i+1)).map (zu s p L)=(rows.take i).map (zu s p L)++[zu s p L r] by rw [List.take_add_one,hr.out];simp)
     rw [← hls7.out,hli.out] at q3
     rw [hli.out] at hf7 hvb7
     obtain⟨bb,hbb⟩:∃ bb,Hid (zu s p L r=bb):=⟨_,rfl⟩
     rw [hbb.out] at hac7
     have hxz:=Hzs.out i r hr.out
     obtain⟨rr,hrr⟩:=Hhd.out r
     rw [hrr,hbb.out] at hxz
     obtain⟨h0x,hb43⟩:=mkS_head bb rr
     generalize mkS (bb :: rr)=x at *
     clear q1 q1' q2 hown6 hat6 hlt6 kG hnxq hgraq hsq HO hHr hrws hnx hrr
     generalize w6.setCell ⟨G,1,none⟩ (.slice (some ⟨g6,0,none⟩) (i+1) cap6)=w7 at *
     generalize Value.slice (some ⟨g6,0,none⟩) (i+1) cap6=v7 at *
     have hownZ7:=zd HZo.out hf7 (fun b hb e=>by have:=hG3.out;have:=hs34.out;have:=HownZ.out b hb;omega)
     obtain⟨gz,rfl,-,-⟩:=zP hownZ7 (by omega)
     obtain⟨adz,x2,haz,-,-,hx2,cx⟩:=(Reads.of_own hownZ7).str hlt
     obtain rfl:=Option.some.inj haz
     rw [zH,Nat.zero_add] at cx
     obtain rfl:x2=x:=Option.some.inj (hx2.out.symm.trans hxz)
     have cS:∀ W,Ext w7 W→W.cell? ⟨gz,i,none⟩=some (.string x2):=fun W hW=>hW.cell_some cx
     have cG:∀ W,Ext w7 W→∀ q,W.cell? ⟨G,q,none⟩=#[Value.int .i64 (L:Nat),v7,vA][q]?:=fun W hW=>(q3.blk.ext hW).cell
     have h0k':(0:Int)<(x2.size:Int):=by omega
     have hb0:=zaP x2 0 h0x
     have hww:=Ext.refl w7
     clear cx hx2 hownZ7 hxz
     go_wp2_with fail
     refine uR (fun X=>Ext w7 X) [9,11] (zK.of [0,1,2,3,4,5,6,7,8,9,10,11]) ?_
     refine uQ ?_
     refine zb fun K hK=>?_;go_simp
     have hxd:=hww.drew
     refine hK.out _ _ (hxd.alloc _) ?_
     refine pT ?_
     refine zg fun K hK=>?_
     have q3d:=q3.ext_ hxd
     have zhK:=q3d.acc
     rw [hla.out] at zhK
     refine zaC w2 w7.drew _ _ _ rfl 4 _ 1 1 Tryz.underlying24 zaG rfl (by decide) vA i (zas ((rows.take i).map (zu s p L))) _ _ rfl rfl q3d.ext.size zhK rfl (by simp [Value.oneCell']) (by unfold maxLen;omega) (by omega) ?_
     intro g8 cap8 w8 hown8 hg8 hat8 hlt8
     refine hK.out _ _ ?_
     refine pT ?_
     refine uQ ?_
     obtain⟨p1,p2,p3⟩:=q3d.pushAcc (x:=bb) (W':=w8) (by rw [hla.out];exact hown8) hg8 hat8
     rw [hla.out,← hac7.out] at p3
     have p1':=p1.out
     have hf9:Frm (fun k=>k=G) w5 (w8.setCell ⟨G,2,none⟩ (.slice (some ⟨g8,0,none⟩) (i+1) cap8)):=((hf7.trans hxd.toFrm).grown hg8 (fun k hk=>hvA.out k hk)).trans (Frm.setCell w8 G 2 _)
     have hvA9:=za (show ∀ b,(Value.slice (some ⟨g8,0,none⟩) (i+1) cap8).ownBlock=some b→w5.heap.size≤b from fun b hb=>by
      have hbb:g8=b:=by simpa [Value.ownBlock] using hb
      subst hbb
      rcases hat8 with h1|h1
      ·exact hvA.out _ h1
      ·have:=hf7.size;have:=hxd.size;omega)
     refine zg fun K hK=>?_
     go_simp
     refine hK.out _ _ ?_
     refine zj ?_
     clear hown8 hg8 hat8 zhK q3d p1 q3 hf7
     generalize w8.setCell ⟨G,2,none⟩ (.slice (some ⟨g8,0,none⟩) (i+1) cap8)=w10 at *
     go_wp2_with fail
     go_roundw
     case rel=>exact⟨i+1,v7,_,by go_num,by omega,p3,hvb7,hvA9,hf9⟩
     case measure=>simp [intOf];omega
  ·have hge:(nr:Int)≤(i:Int):=by omega
   have hall:=za (show rows.take i=rows from List.take_of_length_le (by have:=He.out;omega))
   rw [hall.out] at hgra
   obtain⟨A1,c1,rfl⟩:∃ A1 c1,v=.slice A1 nr c1:=by
    obtain⟨rws,hnx,-⟩:=hgra.own
    rw [List.length_map,He.out] at hnx
    exact zf hnx
   obtain⟨A2,c2,rfl⟩:∃ A2 c2,vA=.slice A2 nr c2:=by
    have hac:=hgra.acc
    rw [List.length_map,He.out] at hac
    exact zf hac
   have b3r:=b3.ext (hx02.trans hx2r)
   have kz:=b3r.cell
   have fz:=b3r.frozen
   have kG:=hgra.blk.cell
   have hf:=zaj wr (w.heap.size+1+1) (.int .i64 (L:Nat)) (.slice A1 nr c1) (.slice A2 nr c2)
   have cf:=(zL b3r rfl (.int .i64 (L:Nat)) (.slice A1 nr c1) (.slice A2 nr c2)).cell
   have zhJ:zO (((wr.setCell ⟨w.heap.size+1+1,0,none⟩ (.int .i64 (L:Nat))).setCell ⟨w.heap.size+1+1,1,none⟩ (.slice A1 nr c1)).setCell ⟨w.heap.size+1+1,2,none⟩ (.slice A2 nr c2)) w.heap.size A1 nr c1 A2 nr c2 aut:=by
    rw [Haut.out]
    have h1:=hgra.own
    have h2:=hgra.acc
    rw [show ((rows.map (zu s p L)).length)=nr by rw [List.length_map];exact He.out] at h2
    have h3:zO wr w2.heap.size A1 nr c1 A2 nr c2 ⟨(L:Int),rows.map arow,rows.map (zu s p L)⟩:=⟨h1,by rw [List.length_map];exact He.out.symm,h2,by rw [List.length_map];exact He.out.symm⟩
    exact (h3.farT b3r hf (by decide)).less (by have:=hx0.size;have:=hx02.size;omega)
   have hret:=za (show RetAutB w aut (.returned (.tuple #[.agg #[.int .i64 (L:Nat),.slice A1 nr c1,.slice A2 nr c2],.bool true])) (((wr.setCell ⟨w.heap.size+1+1,0,none⟩ (.int .i64 (L:Nat))).setCell ⟨w.heap.size+1+1,1,none⟩ (.slice A1 nr c1)).setCell ⟨w.heap.size+1+1,2,none⟩ (.slice A2 nr c2)) from
    ⟨A1,nr,c1,A2,nr,c2,by rw [Haut.out],zhJ,(hx0.trans (hx02.trans hx2r)).frm hf (fun k hk e=>by omega)⟩)
   clear zhJ hf
   go_wp2_with fail
   exact bodyPost_ret (v:=.tuple #[.agg #[.int .i64 (L:Nat),.slice A1 nr c1,.slice A2 nr c2],.bool true]) (by simp [results,Tryz.results193,go_sem,cf]) rfl hret.out
end
theorem zde {L:Nat} {f:ByteArray→Bool} {rows cols:List ByteArray}(h:zcH L f rows cols)(ho:zbk L f rows cols=none)(hL:L<64):zh (zgu L f rows cols)=true:=by
 unfold zh zgu
 simp only [Bool.and_eq_true,decide_eq_true_eq,List.length_map,List.all_eq_true]
 refine⟨by omega,⟨h.r1,h.r12⟩,trivial,fun row hrow=>?_⟩
 obtain⟨r,hr,rfl⟩:=List.mem_map.1 hrow
 unfold zhk autRow
 simp only [Bool.and_eq_true,decide_eq_true_eq,List.length_map,List.all_eq_true]
 refine⟨by rw [Int.toNat_natCast],fun q hq=>?_⟩
 obtain⟨l,hl,rfl⟩:=List.mem_map.1 hq
 have:=idxS_lt (open_none ho hr hl)
 rw [zbl,List.length_map] at this
 exact⟨by omega,by exact_mod_cast this⟩
section
variable {w W:World} {lo hi m d m' d':Nat} {B B':Option Addr} {p:Aut} {t:ByteArray}
theorem zfN (h:zM w lo hi B m B' m' p)(hv:zh p=true)(ht:inB t p.al.toNat=true) :
  Calls Tryz.prog 266 #[.agg #[.int .i64 p.al,.slice B m d,.slice B' m' d'],.string t] w fun e w'=>e=.returned (.int .i64 (runA p 0 (wl t):Nat))∧Ext w w':=by
 obtain⟨al0,al1⟩:=(zx hv).1
 obtain⟨al,hal⟩:∃ al:Nat,Hid (p.al=al):=⟨p.al.toNat,by unfold Hid;omega⟩
 have hal6:al≤63:=by have:=hal.out;omega
 have hto:=za (show p.al.toNat=al by have:=hal.out;omega)
 have hw:=zbi ht
 have hsz:=zaT hw
 have HV:=za (fun W (hW:Ext w W)=>zE _ _ _ _ d _ _ d' _ _ (h.ext hW))
 rw [hv] at HV
 have HR:=za (fun W (hW:Ext w W)=>spec_l3Run (d:=d) (d':=d') (h.ext hW) hv hw)
 rw [hto.out] at ht
 have Hin:=za ht
 rw [hal.out] at HV HR ⊢
 have hw1:Ext w (w.alloc (.cells #[.int .i64 al,.slice B m d,.slice B' m' d'] 26)):=(Ext.refl _).alloc _
 have b1:=Blk.new w 26 #[.int .i64 al,.slice B m d,.slice B' m' d']
 clear h hv ht hw al0 al1
 go_enter Tryz.func266,Tryz.ntmps266
 go_upto_region 1 with fail
 generalize w.alloc (.cells #[.int .i64 al,.slice B m d,.slice B' m' d'] 26)=w1 at *
 have CB:=b1.cells
 have hww:=Ext.refl w1
 go_wp2_with (first
  |(go_at_call 27;refine (HV.out _ hw1).mono ?_;rintro e w2 ⟨rfl,hx2⟩)
  |(go_at_call 140;refine (zQ (by omega) hal6).mono ?_;rw [Hin.out];rintro e w3 ⟨rfl,rfl⟩)
  |(go_at_call 143;refine (HR.out _ (hw1.trans hx2)).mono ?_;rintro e w4 ⟨rfl,hx4⟩))
 go_ret
 exact⟨rfl,hw1.trans (hx2.trans hx4)⟩
theorem zeY (h:zM w lo hi B m B' m' p)(hv:zh p=true)(ht:inB t p.al.toNat=true) :
  Calls Tryz.prog 260 #[.agg #[.int .i64 p.al,.slice B m d,.slice B' m' d'],.string t] w fun e w'=>e=.returned (.bool (zet p (runA p 0 (wl t))))∧Ext w w':=by
 have HA:=za (fun W (hW:Ext w W)=>zfN (d:=d) (d':=d') (h.ext hW) hv ht)
 have HB:=za (fun W (hW:Ext w W) q hq=>accB_cell (q:=q) (h.ext hW) hq)
 have hqn:runA p 0 (wl t)<p.next.length:=runA_lt hv (wl_lt (zbi ht)) (by have:=(zx hv).2.1;omega)
 have hm':m'=p.next.length:=by rw [h.n2,(zx hv).2.2.1]
 rw [← hm'] at hqn
 generalize runA p 0 (wl t)=q at *
 have hq':(q:Int)<(m':Int):=by omega
 have hw1:Ext w (w.alloc (.cells #[.int .i64 p.al,.slice B m d,.slice B' m' d'] 26)):=(Ext.refl _).alloc _
 have b1:=Blk.new w 26 #[.int .i64 p.al,.slice B m d,.slice B' m' d']
 clear h hv ht hm'
 go_enter Tryz.func260,Tryz.ntmps260
 go_upto_region 1 with fail
 generalize w.alloc (.cells #[.int .i64 p.al,.slice B m d,.slice B' m' d'] 26)=w1 at *
 have CB:=b1.cells
 have hww:=Ext.refl w1
 go_upto_region 2 with (first
  |(go_at_call 266;refine (HA.out _ hw1).mono ?_;rintro e w2 ⟨rfl,hx2⟩))
 obtain⟨ad,rfl,cA⟩:=HB.out w2 (hw1.trans hx2) q hqn
 have hq0:(0:Int)≤(q:Int):=by omega
 go_wp2_with fail
 go_ret
 exact⟨zm (by simp),hw1.trans hx2⟩
end
noncomputable def stT (L:Nat) (f:ByteArray→Bool) (rows cols:List ByteArray) (x:ByteArray) (k:Nat):Nat:=runA (zgu L f rows cols) 0 ((wl x).take k)
noncomputable def askT (L:Nat) (f:ByteArray→Bool) (rows cols:List ByteArray) (x:ByteArray) (k:Nat):Bool:=f (rows.getD (stT L f rows cols x k) ⟨#[]⟩++x.extract k x.size)
noncomputable def zdE (L:Nat) (f:ByteArray→Bool) (rows cols:List ByteArray) (x:ByteArray):Option ByteArray:=
 if (inB x L&&decide (x.size≤4000))=true∧zet (zgu L f rows cols) (runA (zgu L f rows cols) 0 (wl x))≠f x then
  ((List.range x.size).find? fun k=>askT L f rows cols x k != askT L f rows cols x (k+1)).map fun k=>x.extract (k+1) x.size
 else none
theorem find_range {P:Nat→Bool} {n k:Nat}(hk:k<n)(hp:∀ j,j<k→P j=false)(hx:P k=true):(List.range n).find? P=some k:=by
 rw [List.find?_range_eq_some]
 exact⟨hx,List.mem_range.2 hk,fun j hj=>by rw [hp j hj];rfl⟩
section
variable {w W:World} {n c m d m' d' L:Nat} {A B B':Option Addr} {s:Sys} {p:Aut} {nr nc cr cc:Nat} {R C:Option Addr} {rows cols:List ByteArray}
theorem zgm {x:ByteArray}(h:Tch w A n B m B' m' s p L)(hT:TabAt w R nr C nc rows cols)(hI:zcH L (zu s p L) rows cols)(hcr:nr≤cr)(hcc:nc≤cc)(hcl:zbk L (zu s p L) rows cols=none)(hx:x.size≤9223372036854775807) :
  Calls Tryz.prog 234 #[.agg #[.bool false,.int .i64 0,.slice none 0 0,.slice none 0 0,.int .i64 s.al,.int .i64 s.st,.slice A n c,.int .i64 p.al,.slice B m d,.slice B' m' d',.int .i64 L],.agg #[.slice R nr cr,.slice C nc cc],.string x] w fun e w'=>e=.returned (.tuple #[.string ((zdE L (zu s p L) rows cols x).getD ⟨#[]⟩),.bool (zdE L (zu s p L) rows cols x).isSome])∧Ext w w':=by
 obtain⟨e1,e2⟩:=hT.nr
 have hav:=zde hI hcl h.lt
 have hr12:=hI.r12
 rw [e1] at hr12
 have HTA:=za (fun W (hW:Ext w W)=>zbQ (c:=c) (d:=d) (d':=d') (h.ext hW) (hT.ext hW) hI hcr hcc hcl)
 have HWd:=za (fun W (hW:Ext w W)=>zeK (c:=c) (d:=d) (d':=d') (h.ext hW) hx)
 have HAsk:=za (fun W (hW:Ext w W) (y:ByteArray) hy=>zcU (c:=c) (d:=d) (d':=d') (t:=y) (h.ext hW) hy)
 obtain⟨lo,hi,lo2,hi2,h1,h2⟩:=hT
 have H1:=za (fun W (hW:Ext w W)=>h1.ext hW)
 have Hin:=za (fun x hx=>hI.rin (x:=x) hx)
 have He:=za e1
 have hanl:=za (show (zgu L (zu s p L) rows cols).next.length=nr by unfold zgu;rw [List.length_map];exact e1)
 have haal:=za (show (zgu L (zu s p L) rows cols).al=(L:Int) from rfl)
 obtain⟨op,hop⟩:∃ op,Hid (zdE L (zu s p L) rows cols x=op):=⟨_,rfl⟩
 rw [hop.out]
 have Hst:=za (fun k=>show stT L (zu s p L) rows cols x k=runA (zgu L (zu s p L) rows cols) 0 ((wl x).take k) from rfl)
 have Hsp:=za (show zdE L (zu s p L) rows cols x=if (inB x L&&decide (x.size≤4000))=true∧zet (zgu L (zu s p L) rows cols) (runA (zgu L (zu s p L) rows cols) 0 (wl x))≠zu s p L x then
  ((List.range x.size).find? fun k=>askT L (zu s p L) rows cols x k != askT L (zu s p L) rows cols x (k+1)).map fun k=>x.extract (k+1) x.size else none from rfl)
 rw [hop.out] at Hsp
 have Hak:=za (fun k=>show askT L (zu s p L) rows cols x k=zu s p L (rows.getD (stT L (zu s p L) rows cols x k) ⟨#[]⟩++x.extract k x.size) from rfl)
 generalize askT L (zu s p L) rows cols x=ask at *
 generalize stT L (zu s p L) rows cols x=st at *
 generalize zgu L (zu s p L) rows cols=aut at *
 have Hav:=za hav
 have hx0:Ext w ((w.alloc (.cells #[.bool false,.int .i64 0,.slice none 0 0,.slice none 0 0,.int .i64 s.al,.int .i64 s.st,.slice A n c,.int .i64 p.al,.slice B m d,.slice B' m' d',.int .i64 L] 203)).alloc (.cells #[.slice R nr cr,.slice C nc cc] 205)):=((Ext.refl _).alloc _).alloc _
 obtain⟨b1,b2⟩:=zR (Ext.refl ((w.alloc (.cells #[.bool false,.int .i64 0,.slice none 0 0,.slice none 0 0,.int .i64 s.al,.int .i64 s.st,.slice A n c,.int .i64 p.al,.slice B m d,.slice B' m' d',.int .i64 L] 203)).alloc (.cells #[.slice R nr cr,.slice C nc cc] 205)))
 clear h h1 h2 hI e1 e2 hav hcl
 go_enter Tryz.func234,Tryz.ntmps234
 go_upto_region 1 with fail
 generalize (w.alloc (.cells #[.bool false,.int .i64 0,.slice none 0 0,.slice none 0 0,.int .i64 s.al,.int .i64 s.st,.slice A n c,.int .i64 p.al,.slice B m d,.slice B' m' d',.int .i64 L] 203)).alloc (.cells #[.slice R nr cr,.slice C nc cc] 205)=w0 at *
 have CB:=b1.cells
 have CT:=b2.cells
 have hww:=Ext.refl w0
 go_upto_region 2 with (first
  |(go_at_call 193;refine (HTA.out _ hx0).mono ?_;rintro e w1 ⟨X,k1,d1,X',k1',d1',rfl,zhJ,hx01⟩))
 rw [haal.out]
 have hat:=(zhJ.ext ((Ext.refl w1).alloc (.cells #[.int .i64 (L:Nat),.slice X k1 d1,.slice X' k1' d1'] 26))).reads
 have b3:=Blk.new w1 26 #[.int .i64 (L:Nat),.slice X k1 d1,.slice X' k1' d1']
 have hx12:=(Ext.refl w1).alloc (.cells #[.int .i64 (L:Nat),.slice X k1 d1,.slice X' k1' d1'] 26)
 generalize w1.alloc (.cells #[.int .i64 (L:Nat),.slice X k1 d1,.slice X' k1' d1'] 26)=w2 at *
 have hx02:=hx01.trans hx12
 have CB2:∀ W,Ext w2 W→∀ q,W.cell? ⟨w.heap.size,q,none⟩=#[Value.bool false,.int .i64 0,.slice none 0 0,.slice none 0 0,.int .i64 s.al,.int .i64 s.st,.slice A n c,.int .i64 p.al,.slice B m d,.slice B' m' d',.int .i64 L][q]?:=fun W hW=>CB W (hx02.trans hW)
 have CT2:∀ W,Ext w2 W→∀ q,W.cell? ⟨w.heap.size+1,q,none⟩=#[Value.slice R nr cr,.slice C nc cc][q]?:=fun W hW=>CT W (hx02.trans hW)
 have CA:=b3.cells
 have HAT:=za (fun W (hW:Ext w2 W)=>hat.ext hW)
 have hww2:=Ext.refl w2
 clear zhJ hat hww
 cases hok:(inB x L&&decide (x.size≤4000))
 ·have Hok:=za hok
  have hno:=za (show op=none by rw [Hsp.out,hok,if_neg (by rintro ⟨h,-⟩;cases h)])
  clear hok
  refine uR (fun X=>Ext w2 X) [] (zK.of [0,1,2,3,4,5,6,7,8,9,10,12,13,11,14,15,16]) ?_
  refine uQ ?_
  refine zb fun K hK=>?_;go_simp
  refine (HWd.out _ (hx0.trans (hx02.trans hww2.drew))).mono ?_
  rw [Hok.out]
  rintro e w3 ⟨rfl,hx3⟩
  have hx23:Ext w2 w3:=hww2.drew.trans hx3
  refine hK.out _ _ hx23 ?_
  refine pT ?_
  refine uQ ?_
  refine zj ?_
  go_wp2_with fail
  go_ret2
  exact⟨by rw [hno.out];rfl,hx0.trans (hx02.trans hx23)⟩
 ·have Hok:=za hok
  have hok2:=hok
  simp only [Bool.and_eq_true,decide_eq_true_eq] at hok2
  obtain⟨hinx,hxs⟩:=hok2
  have HAcc:=za (fun W (hW:Ext w2 W)=>zeY (d:=d1) (d':=d1') (t:=x) (HAT.out W hW) Hav.out (by rw [haal.out,Int.toNat_natCast];exact hinx))
  rw [haal.out] at HAcc
  have HAx:=za (fun W (hW:Ext w2 W)=>HAsk.out W (hx0.trans (hx02.trans hW)) x hx)
  obtain⟨ac,hac⟩:∃ ac,Hid (zet aut (runA aut 0 (wl x))=ac):=⟨_,rfl⟩
  obtain⟨fx,hfx⟩:∃ fx,Hid (zu s p L x=fx):=⟨_,rfl⟩
  rw [hac.out] at HAcc
  rw [hfx.out] at HAx
  rw [hac.out,hfx.out,hok] at Hsp
  clear hok
  by_cases heq:ac=fx
  ·subst heq
   have hno:=za (show op=none by rw [Hsp.out,if_neg (by rintro ⟨-,h⟩;exact h rfl)])
   refine uR (fun X=>Ext w2 X) [] (zK.of [0,1,2,3,4,5,6,7,8,9,10,12,13,11,14,15,16]) ?_
   refine uQ ?_
   refine zb fun K hK=>?_;go_simp
   refine (HWd.out _ (hx0.trans (hx02.trans hww2.drew))).mono ?_
   rw [Hok.out]
   rintro e w3 ⟨rfl,hx3⟩
   have hx23:Ext w2 w3:=hww2.drew.trans hx3
   refine hK.out _ _ hx23 ?_
   refine pT ?_
   refine uQ ?_
   refine zb fun K hK=>?_;go_simp
   refine (HAcc.out _ hx23).mono ?_
   rintro e w4 ⟨rfl,hx4⟩
   have hx24:=hx23.trans hx4
   refine hK.out _ _ hx24 ?_
   refine pT ?_
   refine uQ ?_
   refine zb fun K hK=>?_;go_simp
   refine (HAx.out _ hx24).mono ?_
   rintro e w5 ⟨rfl,hx5⟩
   have hx25:=hx24.trans hx5
   refine hK.out _ _ hx25 ?_
   refine pT ?_
   refine uQ ?_
   refine zj ?_
   go_wp2_with fail
   go_ret2
   exact⟨by rw [hno.out];rfl,hx0.trans (hx02.trans hx25)⟩
  ·have hne:(ac==fx)=false:=by cases ac<;>cases fx<;>simp_all
   have hsp:=za (show op=((List.range x.size).find? fun k=>ask k != ask (k+1)).map fun k=>x.extract (k+1) x.size by rw [Hsp.out,if_pos ⟨rfl,heq⟩])
   clear heq
   refine uR (fun X=>Ext w2 X) [] (zK.of [0,1,2,3,4,5,6,7,8,9,10,12,13,11,14,15,16]) ?_
   refine uQ ?_
   refine zb fun K hK=>?_;go_simp
   refine (HWd.out _ (hx0.trans (hx02.trans hww2.drew))).mono ?_
   rw [Hok.out]
   rintro e w3 ⟨rfl,hx3⟩
   have hx23:Ext w2 w3:=hww2.drew.trans hx3
   refine hK.out _ _ hx23 ?_
   refine pT ?_
   refine uQ ?_
   refine zb fun K hK=>?_;go_simp
   refine (HAcc.out _ hx23).mono ?_
   rintro e w4 ⟨rfl,hx4⟩
   have hx24:=hx23.trans hx4
   refine hK.out _ _ hx24 ?_
   refine pT ?_
   refine uQ ?_
   refine zb fun K hK=>?_;go_simp
   refine (HAx.out _ hx24).mono ?_
   rintro e w5 ⟨rfl,hx5⟩
   have hx25:=hx24.trans hx5
   refine hK.out _ _ hx25 ?_
   refine pT ?_
   refine uQ ?_
   refine zj ?_
   have hw0:=zbi hinx
   have Hb:=za (fun k hk=>zbo hw0 (k:=k) hk)
   have Hlt:=za (wl_lt hw0)
   have hnr1:1≤nr:=by have:=(zx Hav.out).2.1;rw [hanl.out] at this;exact this.1
   clear hinx hw0
   go_wp2_with fail
   go_loopw [10,11] (fun qv iv wr=>∃ (k q:Nat),iv=.int .i64 k∧k≤x.size∧qv=.int .i64 q∧q<nr∧Hid (q=st k)∧Hid (∀ j,j<k→(ask j != ask (j+1))=false)∧Ext w2 wr) (fun _ iv _=>x.size - (intOf iv).toNat)
   case atStart=>exact⟨0,0,rfl,Nat.zero_le _,rfl,hnr1,za (by rw [Hst.out];rfl),za (fun j h=>by omega),hx25⟩
   case round =>
    clear hx25 hx5 hx24 hx4 hx23 hx3
    obtain⟨k,q,rfl,hk,rfl,hq,hqs,hdone,hxr⟩:=hrel
    by_cases hlt:k<x.size
    ·have hlt':(k:Int)<(x.size:Int):=by omega
     obtain⟨l,hl⟩:∃ l:Nat,Hid ((x[k].toNat:Int) - 97=l):=⟨x[k].toNat - 97,by unfold Hid;have:=Hb.out k hlt;omega⟩
     have hl6:l<6:=by have:=hl.out;have:=Hb.out k hlt;omega
     have hq2s:=za (show aGo aut q l=st (k+1) by
      rw [Hst.out,List.take_add_one,zeR hlt,Option.toList_some,runA_snoc,← Hst.out,← hqs.out]
      congr 1
      have:=hl.out;have:=Hb.out k hlt;omega)
     have hq2:aGo aut q l<nr:=by rw [← hanl.out];exact zgs Hav.out (by rw [hanl.out];exact hq) hl6
     have HGo:=za (fun W (hW:Ext w2 W)=>zcm (d:=d1) (d':=d1') (HAT.out W hW) Hav.out (by rw [hanl.out];exact hq) hl6)
     rw [haal.out] at HGo
     generalize aGo aut q l=q2 at *
     have CAr:∀ W,Ext wr W→∀ j,W.cell? ⟨w1.heap.size,j,none⟩=#[Value.int .i64 (L:Nat),.slice X k1 d1,.slice X' k1' d1'][j]?:=fun W hW=>CA W (hxr.trans hW)
     have CBr:∀ W,Ext wr W→∀ j,W.cell? ⟨w.heap.size,j,none⟩=#[Value.bool false,.int .i64 0,.slice none 0 0,.slice none 0 0,.int .i64 s.al,.int .i64 s.st,.slice A n c,.int .i64 p.al,.slice B m d,.slice B' m' d',.int .i64 L][j]?:=fun W hW=>CB2 W (hxr.trans hW)
     have CTr:∀ W,Ext wr W→∀ j,W.cell? ⟨w.heap.size+1,j,none⟩=#[Value.slice R nr cr,.slice C nc cc][j]?:=fun W hW=>CT2 W (hxr.trans hW)
     have hww:=Ext.refl wr
     go_wp2_with fail
     go_region_held3 (fun W=>Ext wr W) (first|assumption|(refine Ext.drew ?_;assumption)|(refine Ext.trans ?_ (by assumption);assumption)|(refine Ext.trans ?_ (by assumption);refine Ext.drew ?_;assumption)) (first
      |(go_at_call 62;refine (zaI x k hlt _).mono ?_;rw [hl.out];rintro e w6 ⟨rfl,rfl⟩)
      |(go_at_call 172;refine (HGo.out _ (hxr.trans ?_)).mono ?_;(first|assumption|(refine Ext.drew ?_;assumption));rintro e w7 ⟨rfl,hx7⟩))
     have hx67:Ext wr w7:=by assumption
     obtain⟨ad,r1,rfl,_,_,hr1,cr1⟩:=(H1.out w7 (hx0.trans (hx02.trans (hxr.trans hx67)))).str hq
     obtain⟨ad2,r2,e2,_,_,hr2,cr2⟩:=(H1.out w7 (hx0.trans (hx02.trans (hxr.trans hx67)))).str hq2
     obtain rfl:=Option.some.inj e2
     have hrs1:=(Hin.out r1 (List.mem_of_getElem? hr1.out)).2
     have hrs2:=(Hin.out r2 (List.mem_of_getElem? hr2.out)).2
     have CR1:∀ W,Ext w7 W→W.cell? (ad.add q)=some (.string r1):=fun W hW=>hW.cell_some cr1
     have CR2:∀ W,Ext w7 W→W.cell? (ad.add q2)=some (.string r2):=fun W hW=>hW.cell_some cr2
     have CB7:∀ W,Ext w7 W→∀ j,W.cell? ⟨w.heap.size,j,none⟩=#[Value.bool false,.int .i64 0,.slice none 0 0,.slice none 0 0,.int .i64 s.al,.int .i64 s.st,.slice A n c,.int .i64 p.al,.slice B m d,.slice B' m' d',.int .i64 L][j]?:=fun W hW=>CBr W (hx67.trans hW)
     have CT7:∀ W,Ext w7 W→∀ j,W.cell? ⟨w.heap.size+1,j,none⟩=#[Value.slice (some ad) nr cr,.slice C nc cc][j]?:=fun W hW=>CTr W (hx67.trans hW)
     obtain⟨y1,hy1⟩:∃ y1,x.extract k x.size=y1:=⟨_,rfl⟩
     obtain⟨y2,hy2⟩:∃ y2,x.extract (k+1) x.size=y2:=⟨_,rfl⟩
     have hys1:y1.size≤4000:=by rw [← hy1,ByteArray.size_extract];omega
     have hys2:y2.size≤4000:=by rw [← hy2,ByteArray.size_extract];omega
     have hsz1:¬ 9223372036854775807<r1.size+y1.size:=by omega
     have hsz2:¬ 9223372036854775807<r2.size+y2.size:=by omega
     obtain⟨z1,hz1⟩:∃ z1,r1++y1=z1:=⟨_,rfl⟩
     obtain⟨z2,hz2⟩:∃ z2,r2++y2=z2:=⟨_,rfl⟩
     have HA1:=za (fun W (hW:Ext w7 W)=>HAsk.out W (hx0.trans (hx02.trans (hxr.trans (hx67.trans hW)))) z1 (by rw [← hz1,ByteArray.size_append];omega))
     have HA2:=za (fun W (hW:Ext w7 W)=>HAsk.out W (hx0.trans (hx02.trans (hxr.trans (hx67.trans hW)))) z2 (by rw [← hz2,ByteArray.size_append];omega))
     have ha1:=za (show ask k=zu s p L z1 by rw [Hak.out,← hqs.out,List.getD_eq_getElem?_getD,hr1.out,Option.getD_some,hy1,hz1])
     have ha2:=za (show ask (k+1)=zu s p L z2 by rw [Hak.out,← hq2s.out,List.getD_eq_getElem?_getD,hr2.out,Option.getD_some,hy2,hz2])
     obtain⟨a1,hb1⟩:∃ a1,Hid (zu s p L z1=a1):=⟨_,rfl⟩
     obtain⟨a2,hb2⟩:∃ a2,Hid (zu s p L z2=a2):=⟨_,rfl⟩
     rw [hb1.out] at HA1 ha1
     rw [hb2.out] at HA2 ha2
     have Hy2:=za hy2
     have hww7:=Ext.refl w7
     have hwr:=IntWalk.i64_in ((k:Int)+1) (by omega)
     have hq':(q:Int)<(nr:Int):=by omega
     have hq2':(q2:Int)<(nr:Int):=by omega
     have hk1:(k:Int)+1≤(x.size:Int):=by omega
     have hkle:(k:Int)≤(x.size:Int):=by omega
     have hk01:(0:Int)≤(k:Int)+1:=by omega
     clear cr1 cr2 hr1 hr2 e2 hb1 hb2
     go_wp2_with fail
     refine uR (fun X=>Ext w7 X) [] (zK.of [0,1,2,3,4,5,6,7,8,9,11,12,13,14,15,16,17,18,19,20,21,10,22,23]) ?_
     refine uQ ?_
     refine zb fun K hK=>?_;go_simp
     refine (HA1.out _ hww7.drew).mono ?_
     rintro e w8 ⟨rfl,hx8⟩
     have hx78:Ext w7 w8:=hww7.drew.trans hx8
     refine hK.out _ _ hx78 ?_
     refine pT ?_
     refine uQ ?_
     refine zb fun K hK=>?_;go_simp
     refine (HA2.out _ hx78).mono ?_
     rintro e w9 ⟨rfl,hx9⟩
     have hx79:=hx78.trans hx9
     refine hK.out _ _ hx79 ?_
     refine pT ?_
     refine uQ ?_
     refine zj ?_
     have hxr9:=hxr.trans (hx67.trans hx79)
     clear hz1 hz2 hy1 hwr
     by_cases hab:a1=a2
     ·subst hab
      have hna:=za (show (ask k != ask (k+1))=false by rw [ha1.out,ha2.out];simp)
      cases a1
      all_goals
       go_wp2_with fail
       go_roundw
       case rel=>exact⟨k+1,q2,by go_num,by omega,rfl,hq2,hq2s,za (fun j hj=>by
        rcases Nat.lt_or_eq_of_le (Nat.le_of_lt_succ hj) with h1|rfl
        ·exact hdone.out j h1
        ·exact hna.out),hxr9⟩
       case measure=>simp [intOf];omega
     ·have hsome:=za (show op=some y2 by
       rw [hsp.out,find_range hlt (fun j hj=>hdone.out j hj) (by rw [ha1.out,ha2.out];simpa using hab),Option.map_some,Hy2.out])
      cases a1<;>cases a2
      ·exact absurd rfl hab
      ·clear hab
       go_wp2_with fail
       go_ret2
       exact⟨by rw [hsome.out];rfl,hx0.trans (hx02.trans hxr9)⟩
      ·clear hab
       go_wp2_with fail
       go_ret2
       exact⟨by rw [hsome.out];rfl,hx0.trans (hx02.trans hxr9)⟩
      ·exact absurd rfl hab
    ·have hge:(x.size:Int)≤(k:Int):=by omega
     have hno:=za (show op=none by
      rw [hsp.out,Option.map_eq_none_iff,List.find?_eq_none]
      intro j hj
      rw [List.mem_range] at hj
      rw [hdone.out j (by omega)]
      decide)
     go_wp2_with fail
     go_ret2
     exact⟨by rw [hno.out];rfl,hx0.trans (hx02.trans hxr)⟩
end
end Go.Proofs.YtfcjhpodichpjaaGreatDoor
