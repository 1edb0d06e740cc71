/- The referenc -/
import Derived.Test.YtcfchopfijalpaaGreatDoorC08
import Derived.Test.YtcfchopfijalpaaGreatDoorC01
import Derived.Test.YtcfchopfijalpaaGreatDoorC07
import Derived.Deep.DeepCutAuto
import Derived.Deep.CutBlock
import Derived.Test.YtcfchopfijalpaaGreatDoorC03
set_option maxHeartbeats 2000000
set_option maxRecDepth 100000
namespace Go.Proofs.YtcfchopfijalpaaGreatDoor
open Go Go.RowKit
noncomputable def zcW (L:Nat) (f:ByteArray→Bool) (rows cols:List ByteArray) (r:ByteArray):List Int:=(letters L 6).map fun l=>((zhw (zal f cols rows) (mkS (zbq f cols (r++zbA l))):Nat):Int)
noncomputable def zdn (L:Nat) (f:ByteArray→Bool) (rows cols:List ByteArray):Aut:=⟨(L:Int),rows.map (zcW L f rows cols),rows.map f⟩
theorem zdH {L:Nat} {f:ByteArray→Bool} {rows cols:List ByteArray}(h:zav L f rows cols=none) {r:ByteArray} {l:Nat}(hr:r∈rows)(hl:l∈letters L 6):mkS (zbq f cols (r++zbA l))∈zal f cols rows:=by
 unfold zav at h
 rw [List.find?_eq_none] at h
 have:=h (r++zbA l) (List.mem_flatMap.2 ⟨r,hr,List.mem_map.2 ⟨l,hl,rfl⟩⟩)
 simp only [Bool.not_eq_true',Bool.not_eq_false] at this
 exact zai.1 this
theorem mkS_head (b:Bool) (r:List Bool):∃ h:0<(mkS (b :: r)).size,((((mkS (b :: r))[0]'h).toNat:Int)==43)=b:=by
 have h0:0<(mkS (b :: r)).size:=by rw [mkS_size];simp
 refine⟨h0,?_⟩
 have h1:=zbE (mkS (b :: r)) 0 h0
 rw [zeZ,List.map_cons,List.getElem?_cons_zero] at h1
 have h2:=Option.some.inj h1
 rw [← h2]
 cases b<;>rfl
theorem rowM_head {L:Nat} {f:ByteArray→Bool} {rows cols:List ByteArray}(h:zbz L f rows cols) (x:ByteArray):∃ r,zbq f cols x=f x :: r:=by
 have h0:=h.c0
 match cols,h0 with
 |c :: cs,h0 =>
  simp at h0
  subst h0
  refine⟨cs.map fun c=>f (x++c),?_⟩
  unfold zbq
  rw [List.map_cons]
  congr 1
  exact congrArg f (ByteArray.append_empty)
section
variable {w0 W W':World} {G:Nat} {al:Int} {v vA:Value} {ls:List (List Int)} {acc:List Bool}
theorem Gra.pushAcc {x:Bool} {g cap:Nat}(h:Gra w0 W G al v ls vA acc)
  (ziJ:W'.ownsRow w0.heap.size 4 1 (.slice (some ⟨g,0,none⟩) (acc.length+1) cap) (acc.length+1) (zP acc++[.bool x]))
  (hg:W.grownBy W' vA.ownBlock) (hat:vA.ownBlock=some g∨g=W.heap.size+1) :
  Hid (W'.cell? ⟨G,2,none⟩=some vA)∧W'.frozen? ⟨G,2,none⟩=false∧Gra w0 (W'.setCell ⟨G,2,none⟩ (.slice (some ⟨g,0,none⟩) (acc.length+1) cap)) G al v ls (.slice (some ⟨g,0,none⟩) (acc.length+1) cap) (acc++[x]):=by
 have hGG:=h.hG
 have hB:Blk W' G 31 #[.int .i64 al,v,vA]:=(hg.block G h.blk.lt (fun e=>zw h.acc h.blk (by decide) e.symm rfl)).trans h.blk
 have hgG:g≠G:=by
  rcases hat with h1|h1
  ·exact zw h.acc h.blk (by decide) h1
  ·have:=h.blk.lt;omega
 have hx':Ext w0 W':=h.ext.grown hg (fun k hk=>(h.acc.lt k hk).1)
 have hfr:Frm (fun k=>vA.ownBlock=some k) W W':=Frm.of_grown hg
 obtain⟨rows,hn0,hr0⟩:=h.own
 have hn:W'.ownsRow w0.heap.size 128 1 v ls.length rows:=zg hn0 hfr (fun b hb hS=>zaX hn0 h.acc (by decide) hb hS)
 have hr2:zx W' w0.heap.size rows ls:=hr0.frm hfr (fun i r b hr hb hS=>by
  obtain⟨l',_,ho⟩:=hr0.row hr
  exact zaX ho h.acc (by decide) hb hS)
 have hset:=Frm.setCell W' G 2 (.slice (some ⟨g,0,none⟩) (acc.length+1) cap)
 refine⟨hB.cell 2,hB.frozen 2,⟨by simpa using hB.set_ 2 _,⟨rows,zg hn hset (fun b hb hS=>zw hn hB (by decide) hb hS),hr2.frm hset (fun i r b hr hb hS=>?_)⟩,?_,hx'.setCell (p:=⟨G,2,none⟩) hGG _,hGG⟩⟩
 ·obtain⟨l',_,ho⟩:=hr2.row hr
  exact zw ho hB (by decide) hb hS
 ·rw [List.length_append,List.length_singleton,show zP (acc++[x])=zP acc++[.bool x] by simp [zP]]
  exact zg ziJ hset (fun b hv hS=>by
   have:g=b:=by simpa [Value.ownBlock] using hv
   omega)
end
theorem Frm.grown {S:Nat→Prop} {a w w':World} {row:Option Nat}(h:Frm S a w)(hg:w.grownBy w' row)(hr:∀ k,row=some k→a.heap.size≤k):Frm S a w':=
 ⟨hg.os.trans h.os,hg.tape.trans h.tape,hg.output.trans h.output,Nat.le_trans h.size hg.size,fun k hk hS=>(hg.block k (Nat.lt_of_lt_of_le hk h.size) (fun e=>by have:=hr k e.symm;omega)).trans (h.block k hk hS)⟩
def RetAutB (w:World) (a:Aut) (e:Ending) (w':World):Prop:=
 ∃ A n c A' n' c',e=.returned (.tuple #[.agg #[.int .i64 a.al,.slice A n c,.slice A' n' c'],.bool true])∧zac w' w.heap.size A n c A' n' c' a∧Ext w w'
section
variable {w W:World} {n c m d m' d' L:Nat} {A B B':Option Addr} {s:Sys} {p:Aut} {nr nc cr cc:Nat} {R C:Option Addr} {rows cols:List ByteArray}
theorem zcA (h:Tch w A n B m B' m' s p L)(hT:TabAt w R nr C nc rows cols)(hI:zbz L (zt s p L) rows cols)(hcr:nr≤cr)(hcc:nc≤cc)(hcl:zav L (zt s p L) rows cols=none) :
  Calls Tryz.prog 71 #[.agg #[.bool false,.int .i64 0,.slice none 0 0,.slice none 0 0,.int .i64 s.al,.int .i64 s.st,.slice A n c,.int .i64 p.al,.slice B m d,.slice B' m' d',.int .i64 L],.agg #[.slice R nr cr,.slice C nc cc]] w (RetAutB w (zdn L (zt s p L) rows cols)):=by
 obtain⟨e1,e2⟩:=hT.nr
 have hr12:=hI.r12;have hc20:=hI.c20
 rw [e1] at hr12
 rw [e2] at hc20
 have HCl:=za (fun W (hW:Ext w W)=>zfS (c:=c) (d:=d) (d':=d') (h.ext hW) (hT.ext hW) hI hcr hcc hcl)
 have HA:=za (fun W (hW:Ext w W)=>zaF (c:=c) (d:=d) (d':=d') (h.ext hW))
 obtain⟨lo,hi,lo2,hi2,h1,h2⟩:=hT
 have HR:=za (fun W (hW:Ext w W)=>zdO (c:=c) (d:=d) (d':=d') (cc:=cc) (cr:=cr) (h.ext hW) (h2.ext hW) (h1.ext hW) (by omega) (by omega) hI.rsz'.2 hI.rsz'.1)
 have HW:=za (fun W (hW:Ext w W) (y:ByteArray) hy=>zeB (c:=c) (d:=d) (d':=d') (cc:=cc) (x:=y) (h.ext hW) (h2.ext hW) (by omega) hy hI.rsz'.2)
 have H1:=za (fun W (hW:Ext w W)=>h1.ext hW)
 have hL:=h.lt
 have Hin:=za (fun x hx=>hI.rin (x:=x) hx)
 have Hop:=za (fun (r:ByteArray) (l:Nat) hr hl=>zdH (r:=r) (l:=l) hcl hr hl)
 have Hhd:=za (fun x=>rowM_head hI x)
 have hlen:(zal (zt s p L) cols rows).length=nr:=by rw [zal,List.length_map];exact e1
 have hzs:∀ (i:Nat) (r:ByteArray),rows[i]?=some r→(zal (zt s p L) cols rows)[i]?=some (mkS (zbq (zt s p L) cols r)):=fun i r hr=>by rw [zal,List.getElem?_map,hr];rfl
 have Hzs:=za hzs
 have Haut:=za (show zdn L (zt s p L) rows cols=⟨(L:Int),rows.map (zcW L (zt s p L) rows cols),rows.map (zt s p L)⟩ from rfl)
 have Hrow:=za (fun r=>show zcW L (zt s p L) rows cols r=(letters L 6).map fun l=>((zhw (zal (zt s p L) cols rows) (mkS (zbq (zt s p L) cols (r++zbA l))):Nat):Int) from rfl)
 generalize zdn L (zt s p L) rows cols=aut at *
 generalize zcW L (zt s p L) rows cols=arow at *
 generalize zal (zt s p L) cols rows=zs at *
 have Hlen:=za hlen
 have He:=za e1
 have hx0:Ext w (((w.alloc (.cells #[.bool false,.int .i64 0,.slice none 0 0,.slice none 0 0,.int .i64 s.al,.int .i64 s.st,.slice A n c,.int .i64 p.al,.slice B m d,.slice B' m' d',.int .i64 L] 98)).alloc (.cells #[.slice R nr cr,.slice C nc cc] 101)).alloc (.cells #[.int .i64 0,.slice none 0 0,.slice none 0 0] 31)):=(((Ext.refl _).alloc _).alloc _).alloc _
 obtain⟨b1,b2,b3⟩:=zK (Ext.refl (((w.alloc (.cells #[.bool false,.int .i64 0,.slice none 0 0,.slice none 0 0,.int .i64 s.al,.int .i64 s.st,.slice A n c,.int .i64 p.al,.slice B m d,.slice B' m' d',.int .i64 L] 98)).alloc (.cells #[.slice R nr cr,.slice C nc cc] 101)).alloc (.cells #[.int .i64 0,.slice none 0 0,.slice none 0 0] 31)))
 clear h h1 h2 hI e1 e2 hlen hzs hcl
 go_enter Tryz.func71,Tryz.ntmps71
 go_upto_region 1 with fail
 generalize ((w.alloc (.cells #[.bool false,.int .i64 0,.slice none 0 0,.slice none 0 0,.int .i64 s.al,.int .i64 s.st,.slice A n c,.int .i64 p.al,.slice B m d,.slice B' m' d',.int .i64 L] 98)).alloc (.cells #[.slice R nr cr,.slice C nc cc] 101)).alloc (.cells #[.int .i64 0,.slice none 0 0,.slice none 0 0] 31)=w0 at *
 have CB:=b1.cells
 have CT:=b2.cells
 have hb3:=b3.lt
 have hww:=Ext.refl w0
 go_upto_region 4 with (first
  |(go_at_call 129;refine (HCl.out _ hx0).mono ?_;rintro e w1 ⟨rfl,hx01⟩)
  |(go_at_call 130;refine (HA.out _ (hx0.trans hx01)).mono ?_;rintro e w2 ⟨rfl,hx12⟩;have hx02:=hx01.trans hx12))
 have hs2:=hx02.size
 have hxG:=(Ext.refl w2).alloc (.cells #[.int .i64 (L:Nat),.slice none 0 0,.slice none 0 0] 31)
 have hgra:Gra w2 (w2.alloc (.cells #[.int .i64 (L:Nat),.slice none 0 0,.slice none 0 0] 31)) w2.heap.size (L:Nat) (.slice none 0 0) [] (.slice none 0 0) []:=
  ⟨Blk.new w2 _ _,⟨[],World.ownsRow_nil _ _ _ _,zx.nil _ _⟩,World.ownsRow_nil _ _ _ _,hxG,Nat.le_refl _⟩
 clear hxG
 generalize hG:w2.heap.size=G at *
 generalize w2.alloc (.cells #[.int .i64 (L:Nat),.slice none 0 0,.slice none 0 0] 31)=w3 at *
 have HG:=za hG
 clear hG
 have k3:=hgra.blk.cell
 have hx03:Ext w0 w3:=hx02.trans hgra.ext
 have CB3:∀ W,Ext w3 W→∀ q,W.cell? ⟨w.heap.size,q,none⟩=#[Value.bool false,.int .i64 0,.slice none 0 0,.slice none 0 0,.int .i64 s.al,.int .i64 s.st,.slice A n c,.int .i64 p.al,.slice B m d,.slice B' m' d',.int .i64 L][q]?:=fun W hW=>CB W (hx03.trans hW)
 have CT3:∀ W,Ext w3 W→∀ q,W.cell? ⟨w.heap.size+1,q,none⟩=#[Value.slice R nr cr,.slice C nc cc][q]?:=fun W hW=>CT W (hx03.trans hW)
 go_wp2_with (first
  |(go_at_call 131;refine (zaC L (by unfold Sm;omega) _).mono ?_;rintro e w4 ⟨HL,hc,rfl,hownL,hx34⟩)
  |(go_at_call 132;refine (HR.out _ (hx0.trans (hx03.trans hx34))).mono ?_;rintro e w5 ⟨ZA,zc,rfl,hownZ,hx45⟩;have hx35:=hx34.trans hx45))
 have hrdZ:=Reads.of_own hownZ
 rw [Hlen.out] at hrdZ
 have HZ:=za (fun W (hW:Ext w5 W)=>hrdZ.ext hW)
 have hownL5:=zh hownL hx45
 have HLet:=za (fun W (hW:Ext w5 W)=>zh hownL5 hW)
 have Hown3:=za (fun b hb=>(hownL.lt b hb).1)
 have hG3:=za (hgra.blk.lt)
 have hs34:=za hx34.size
 have hlm:=za (fun l (hl:l∈letters L 6)=>(zz.1 hl).1)
 have hls:(letters L 6).length≤6:=zI L 6
 have hx05:Ext w0 w5:=hx03.trans hx35
 have hgra5:=hgra.ext_ hx35
 generalize letters L 6=ls0 at *
 have hzl:=Hlen.out
 rw [Hlen.out] at hownZ ⊢
 have HZo:=za hownZ
 have HownZ:=za (fun b hb=>(hownZ.lt b hb).1)
 clear hownL hownL5 hrdZ hownZ hx34 hx45 k3 hgra CB3 CT3 hww
 go_loopw [9] (fun iv wr=>∃ (i:Nat) (v vA:Value),iv=.int .i64 i∧i≤nr∧Gra w2 wr G (L:Nat) v ((rows.take i).map arow) vA ((rows.take i).map (zt s p L))∧Hid (∀ b,v.ownBlock=some b→w5.heap.size≤b)∧Hid (∀ b,vA.ownBlock=some b→w5.heap.size≤b)∧Frm (fun k=>k=G) w5 wr) (fun iv _=>nr - (intOf iv).toNat)
 case atStart=>exact⟨0,_,_,rfl,Nat.zero_le _,by simpa using hgra5,za (fun b hb=>by simp [Value.ownBlock] at hb),za (fun b hb=>by simp [Value.ownBlock] at hb),Frm.refl _ _⟩
 case round =>
  obtain⟨i,v,vA,rfl,hi,hgra,hvb,hvA,hfr⟩:=hrel
  have hx2r:=hgra.ext
  have hGw:=hgra.blk.lt
  have CBr:∀ W,Ext wr W→∀ q,W.cell? ⟨w.heap.size,q,none⟩=#[Value.bool false,.int .i64 0,.slice none 0 0,.slice none 0 0,.int .i64 s.al,.int .i64 s.st,.slice A n c,.int .i64 p.al,.slice B m d,.slice B' m' d',.int .i64 L][q]?:=fun W hW=>CB W ((hx02.trans hx2r).trans hW)
  have CTr:∀ W,Ext wr W→∀ q,W.cell? ⟨w.heap.size+1,q,none⟩=#[Value.slice R nr cr,.slice C nc cc][q]?:=fun W hW=>CT W ((hx02.trans hx2r).trans hW)
  by_cases hlt:i<nr
  ·have hlt':(i:Int)<(nr:Int):=by omega
   obtain⟨ad,r,rfl,_,_,hr,cr0⟩:=(H1.out wr (hx0.trans (hx02.trans hx2r))).str hlt
   have CR:∀ W,Ext wr W→W.cell? (ad.add i)=some (.string r):=fun W hW=>hW.cell_some cr0
   have hrs:=(Hin.out r (List.mem_of_getElem? hr.out)).2
   have hrmem:=za (List.mem_of_getElem? hr.out)
   have hown0:(wr.alloc (.cells #[] 3)).ownsRow wr.heap.size 3 1 (.slice (some ⟨wr.heap.size,0,none⟩) 0 0) 0 (ints []):=World.ownsRow_lit wr #[] 0 (Nat.le_refl _) (by unfold maxLen;omega) rfl
   have hxa:=(Ext.refl wr).alloc (.cells #[] 3)
   clear cr0
   obtain⟨wo,hwo⟩:∃ wo,wo=wr:=⟨_,rfl⟩
   subst hwo
   go_wp2_with fail
   go_loopw [10,11] (fun v10 kv wr=>∃ k:Nat,kv=.int .i64 k∧k≤ls0.length∧wr.ownsRow wo.heap.size 3 1 v10 k (ints ((arow r).take k))∧Ext wo wr) (fun _ kv _=>ls0.length - (intOf kv).toNat)
   case atStart=>exact⟨0,rfl,Nat.zero_le _,by simpa [ints] using hown0,hxa⟩
   case round =>
    clear hown0 hxa
    obtain⟨k,rfl,hk,ziJ,hxq⟩:=hrel
    by_cases hkl:k<ls0.length
    ·have hkl':(k:Int)<(ls0.length:Int):=by omega
     obtain⟨l,hl⟩:∃ l,ls0[k]?=some l:=⟨_,List.getElem?_eq_getElem hkl⟩
     have hl6:=hlm.out l (List.mem_of_getElem? hl)
     have hlmem:=za (List.mem_of_getElem? hl)
     have hownL2:=zg (HLet.out w5 (Ext.refl _)) (hfr.trans hxq.toFrm) (fun b hb e=>by have:=hG3.out;have:=Hown3.out b hb;omega)
     have hownZ2:=zg HZo.out (hfr.trans hxq.toFrm) (fun b hb e=>by have:=hG3.out;have:=hs34.out;have:=HownZ.out b hb;omega)
     obtain⟨gl,rfl,hgl,-⟩:=zaq hownL2 (by omega)
     have cl:=zcx hownL2 hkl
     rw [List.getD_eq_getElem?_getD,hl,Option.getD_some] at cl
     have CL:∀ W,Ext wr W→W.cell? ⟨gl,k,none⟩=some (.int .i64 (l:Nat)):=fun W hW=>hW.cell_some cl
     have CR2:∀ W,Ext wr W→W.cell? (ad.add i)=some (.string r):=fun W hW=>CR W (hxq.trans hW)
     have CT2:∀ W,Ext wr W→∀ q,W.cell? ⟨w.heap.size+1,q,none⟩=#[Value.slice (some ad) nr cr,.slice C nc cc][q]?:=fun W hW=>CTr W (hxq.trans hW)
     have CB2:∀ W,Ext wr W→∀ q,W.cell? ⟨w.heap.size,q,none⟩=#[Value.bool false,.int .i64 0,.slice none 0 0,.slice none 0 0,.int .i64 s.al,.int .i64 s.st,.slice A n c,.int .i64 p.al,.slice B m d,.slice B' m' d',.int .i64 L][q]?:=fun W hW=>CBr W (hxq.trans hW)
     have HT:=za (fun W=>zdP (w:=W) hl6)
     have Hl:=za hl
     have hmemz:=za (Hop.out r l hrmem.out hlmem.out)
     obtain⟨z,hz⟩:∃ z,Hid (zbA l=z):=⟨_,rfl⟩
     rw [hz.out] at HT
     have hz1:z.size=1:=by rw [← hz.out];exact zcc l
     have hsz:¬ 9223372036854775807<r.size+1:=by omega
     have HWr:=za (fun W (hW:Ext wr W)=>HW.out W ((hx0.trans (hx02.trans (hx2r.trans hxq))).trans hW) (r++z) (by rw [ByteArray.size_append];omega))
     have hrdz:=Reads.of_own hownZ2
     have HIx:=za (fun W (hW:Ext wr W)=>zix (c:=zc) (hrdz.ext hW) hmemz.out)
     rw [hz.out] at HIx
     have hrowk:=za (show (arow r)[k]?=some ((zhw zs (mkS (zbq (zt s p L) cols (r++z))):Nat):Int) by rw [Hrow.out,List.getElem?_map,hl,← hz.out];rfl)
     obtain⟨y,hy⟩:∃ y,r++z=y:=⟨_,rfl⟩
     rw [hy] at HWr HIx hrowk
     obtain⟨I,hI⟩:∃ I,Hid (zhw zs (mkS (zbq (zt s p L) cols y))=I):=⟨_,rfl⟩
     rw [hI.out] at HIx hrowk
     generalize mkS (zbq (zt s p L) cols y)=ys at *
     have hst:=za (show ints ((arow r).take (k+1))=ints ((arow r).take k)++[.int .i64 (I:Nat)] by rw [List.take_add_one,hrowk.out];simp [ints])
     have hww:=Ext.refl wr
     clear hl cl hrdz hownL2 hownZ2
     go_wp2_with fail
     refine uR (fun X=>Ext wr X) [19] (zu.of [0,1,2,3,4,5,6,7,8,9,10,11,12,13,14,15,16,17,18,19,20]) ?_
     refine uQ ?_
     refine ze fun K hK=>?_;go_simp
     refine (HT.out _).mono ?_
     rintro e w6 ⟨rfl,hx6⟩
     have hxr6:Ext wr w6:=hww.drew.trans hx6
     refine hK.out _ _ hxr6 ?_
     refine pT ?_
     refine uQ ?_
     refine ze fun K hK=>?_;go_simp
     with_reducible refine (HWr.out _ hxr6).mono ?_
     rintro e w7 ⟨rfl,hx7⟩
     have hxr7:=hxr6.trans hx7
     refine hK.out _ _ hxr7 ?_
     refine pT ?_
     refine uQ ?_
     refine ze fun K hK=>?_;go_simp
     with_reducible refine (HIx.out _ hxr7).mono ?_
     rintro e w8 ⟨rfl,rfl⟩
     refine hK.out _ _ hxr7 ?_
     refine pT ?_
     refine uQ ?_
     refine ze fun K hK=>?_;go_simp
     refine hK.out _ _ (hxr7.alloc _) ?_
     refine pT ?_
     refine zb fun K hK=>?_
     refine zbN wo w7 _ _ _ rfl 3 _ 1 8 Tryz.underlying128 zah rfl (by decide) _ k (ints ((arow r).take k)) _ _ rfl rfl (hxq.trans hxr7).size (zh ziJ hxr7) rfl (zaR _) (by unfold maxLen;omega) (by omega) ?_
     intro g9 cap9 w9 hown9 hg9 hat9 hlt9
     refine hK.out _ _ ?_
     refine pT ?_
     refine uQ ?_
     refine zf ?_
     clear hy
     go_wp2_with fail
     go_roundw
     case rel=>exact⟨k+1,by go_num,by omega,by rw [hst.out];exact hown9,(hxq.trans hxr7).grown hg9 (fun k hk=>(ziJ.lt k hk).1)⟩
     case measure=>simp [intOf];omega
    ·have hge:(ls0.length:Int)≤(k:Int):=by omega
     have hfull:=za (show (arow r).take k=arow r from List.take_of_length_le (by rw [Hrow.out,List.length_map];omega))
     rw [hfull.out] at ziJ
     obtain⟨A1,c1,rfl⟩:=zi ziJ
     have hkl2:=za (show k=(arow r).length by rw [Hrow.out,List.length_map];omega)
     obtain⟨rws,hnx,hrws⟩:=hgra.own
     have hli:=za (show ((rows.take i).map arow).length=i by rw [List.length_map,List.length_take];have:=He.out;omega)
     have hla:=za (show ((rows.take i).map (zt s p L)).length=i by rw [List.length_map,List.length_take];have:=He.out;omega)
     rw [hli.out] at hnx
     have hgraq:=hgra.ext_ hxq
     have kG:=hgraq.blk.cell
     have hsq:=za (hgraq.ext.size)
     have hnxq:=zh hnx hxq
     have hHr:=za hrws
     have HO:=za (show wr.ownsRow wo.heap.size 3 1 (.slice A1 k c1) (arow r).length (ints (arow r)) by rw [← hkl2.out];exact ziJ)
     clear ziJ
     go_upto_region 15 with (at_builtin;refine zaZ w2 wr rfl _ _ _ rfl 128 _ 1 24 Tryz.underlying25 zdc rfl (by decide) v i rws _ _ rfl rfl hsq.out hnxq rfl (zbS _ _ _) (by unfold maxLen;omega) (by omega) ?_;intro g6 cap6 w6 hown6 hg6 hat6 hlt6;obtain⟨q1,q2,q3⟩:=hgra.push (l:=arow r) (row:=.slice A1 k c1) hHr.out (by rw [hli.out];exact hnx) hxq HO.out (by rw [hli.out];exact hown6) hg6 hat6;have q1':=q1.out)
     have hf7:Frm (fun k=>k=G) w5 (w6.setCell ⟨G,1,none⟩ (.slice (some ⟨g6,0,none⟩) (((rows.take i).map arow).length+1) cap6)):=((hfr.trans hxq.toFrm).grown hg6 (fun k hk=>hvb.out k hk)).trans (Frm.setCell w6 G 1 _)
     have hvb7:=za (show ∀ b,(Value.slice (some ⟨g6,0,none⟩) (((rows.take i).map arow).length+1) cap6).ownBlock=some b→w5.heap.size≤b from fun b hb=>by
      have hbb:g6=b:=by simpa [Value.ownBlock] using hb
      subst hbb
      rcases hat6 with h1|h1
      ·exact hvb.out _ h1
      ·have:=hxq.size;have:=hfr.size;omega)
     have hls7:=za (show (rows.take (i+1)).map arow=(rows.take i).map arow++[arow r] by rw [List.take_add_one,hr.out];simp)
     have hac7:=za (show (rows.take (i+1)).map (zt s p L)=(rows.take i).map (zt s p L)++[zt s p L r] by rw [List.take_add_one,hr.out];simp)
     rw [← hls7.out,hli.out] at q3
     rw [hli.out] at hf7 hvb7
     obtain⟨bb,hbb⟩:∃ bb,Hid (zt s p L r=bb):=⟨_,rfl⟩
     rw [hbb.out] at hac7
     have hxz:=Hzs.out i r hr.out
     obtain⟨rr,hrr⟩:=Hhd.out r
     rw [hrr,hbb.out] at hxz
     obtain⟨h0x,hb43⟩:=mkS_head bb rr
     generalize mkS (bb :: rr)=x at *
     clear q1 q1' q2 hown6 hat6 hlt6 kG hnxq hgraq hsq HO hHr hrws hnx hrr
     generalize w6.setCell ⟨G,1,none⟩ (.slice (some ⟨g6,0,none⟩) (i+1) cap6)=w7 at *
     generalize Value.slice (some ⟨g6,0,none⟩) (i+1) cap6=v7 at *
     have hownZ7:=zg HZo.out hf7 (fun b hb e=>by have:=hG3.out;have:=hs34.out;have:=HownZ.out b hb;omega)
     obtain⟨gz,rfl,-,-⟩:=zaq hownZ7 (by omega)
     obtain⟨adz,x2,haz,-,-,hx2,cx⟩:=(Reads.of_own hownZ7).str hlt
     obtain rfl:=Option.some.inj haz
     rw [zaE,Nat.zero_add] at cx
     obtain rfl:x2=x:=Option.some.inj (hx2.out.symm.trans hxz)
     have cS:∀ W,Ext w7 W→W.cell? ⟨gz,i,none⟩=some (.string x2):=fun W hW=>hW.cell_some cx
     have cG:∀ W,Ext w7 W→∀ q,W.cell? ⟨G,q,none⟩=#[Value.int .i64 (L:Nat),v7,vA][q]?:=fun W hW=>(q3.blk.ext hW).cell
     have h0k':(0:Int)<(x2.size:Int):=by omega
     have hb0:=zhT x2 0 h0x
     have hww:=Ext.refl w7
     clear cx hx2 hownZ7 hxz
     go_wp2_with fail
     refine uR (fun X=>Ext w7 X) [9,11] (zu.of [0,1,2,3,4,5,6,7,8,9,10,11]) ?_
     refine uQ ?_
     refine ze fun K hK=>?_;go_simp
     have hxd:=hww.drew
     refine hK.out _ _ (hxd.alloc _) ?_
     refine pT ?_
     refine zb fun K hK=>?_
     have q3d:=q3.ext_ hxd
     have ziK:=q3d.acc
     rw [hla.out] at ziK
     refine zbN w2 w7.drew _ _ _ rfl 4 _ 1 1 Tryz.underlying26 zbH rfl (by decide) vA i (zP ((rows.take i).map (zt s p L))) _ _ rfl rfl q3d.ext.size ziK rfl (by simp [Value.oneCell']) (by unfold maxLen;omega) (by omega) ?_
     intro g8 cap8 w8 hown8 hg8 hat8 hlt8
     refine hK.out _ _ ?_
     refine pT ?_
     refine uQ ?_
     obtain⟨p1,p2,p3⟩:=q3d.pushAcc (x:=bb) (W':=w8) (by rw [hla.out];exact hown8) hg8 hat8
     rw [hla.out,← hac7.out] at p3
     have p1':=p1.out
     have hf9:Frm (fun k=>k=G) w5 (w8.setCell ⟨G,2,none⟩ (.slice (some ⟨g8,0,none⟩) (i+1) cap8)):=((hf7.trans hxd.toFrm).grown hg8 (fun k hk=>hvA.out k hk)).trans (Frm.setCell w8 G 2 _)
     have hvA9:=za (show ∀ b,(Value.slice (some ⟨g8,0,none⟩) (i+1) cap8).ownBlock=some b→w5.heap.size≤b from fun b hb=>by
      have hbb:g8=b:=by simpa [Value.ownBlock] using hb
      subst hbb
      rcases hat8 with h1|h1
      ·exact hvA.out _ h1
      ·have:=hf7.size;have:=hxd.size;omega)
     refine zb fun K hK=>?_
     go_simp
     refine hK.out _ _ ?_
     refine zf ?_
     clear hown8 hg8 hat8 ziK q3d p1 q3 hf7
     generalize w8.setCell ⟨G,2,none⟩ (.slice (some ⟨g8,0,none⟩) (i+1) cap8)=w10 at *
     go_wp2_with fail
     go_roundw
     case rel=>exact⟨i+1,v7,_,by go_num,by omega,p3,hvb7,hvA9,hf9⟩
     case measure=>simp [intOf];omega
  ·have hge:(nr:Int)≤(i:Int):=by omega
   have hall:=za (show rows.take i=rows from List.take_of_length_le (by have:=He.out;omega))
   rw [hall.out] at hgra
   obtain⟨A1,c1,rfl⟩:∃ A1 c1,v=.slice A1 nr c1:=by
    obtain⟨rws,hnx,-⟩:=hgra.own
    rw [List.length_map,He.out] at hnx
    exact zi hnx
   obtain⟨A2,c2,rfl⟩:∃ A2 c2,vA=.slice A2 nr c2:=by
    have hac:=hgra.acc
    rw [List.length_map,He.out] at hac
    exact zi hac
   have b3r:=b3.ext (hx02.trans hx2r)
   have kz:=b3r.cell
   have fz:=b3r.frozen
   have kG:=hgra.blk.cell
   have hf:=zap wr (w.heap.size+1+1) (.int .i64 (L:Nat)) (.slice A1 nr c1) (.slice A2 nr c2)
   have cf:=(zaT b3r rfl (.int .i64 (L:Nat)) (.slice A1 nr c1) (.slice A2 nr c2)).cell
   have ziJ:zac (((wr.setCell ⟨w.heap.size+1+1,0,none⟩ (.int .i64 (L:Nat))).setCell ⟨w.heap.size+1+1,1,none⟩ (.slice A1 nr c1)).setCell ⟨w.heap.size+1+1,2,none⟩ (.slice A2 nr c2)) w.heap.size A1 nr c1 A2 nr c2 aut:=by
    rw [Haut.out]
    have h1:=hgra.own
    have h2:=hgra.acc
    rw [show ((rows.map (zt s p L)).length)=nr by rw [List.length_map];exact He.out] at h2
    have h3:zac wr w2.heap.size A1 nr c1 A2 nr c2 ⟨(L:Int),rows.map arow,rows.map (zt s p L)⟩:=⟨h1,by rw [List.length_map];exact He.out.symm,h2,by rw [List.length_map];exact He.out.symm⟩
    exact (h3.farT b3r hf (by decide)).less (by have:=hx0.size;have:=hx02.size;omega)
   have hret:=za (show RetAutB w aut (.returned (.tuple #[.agg #[.int .i64 (L:Nat),.slice A1 nr c1,.slice A2 nr c2],.bool true])) (((wr.setCell ⟨w.heap.size+1+1,0,none⟩ (.int .i64 (L:Nat))).setCell ⟨w.heap.size+1+1,1,none⟩ (.slice A1 nr c1)).setCell ⟨w.heap.size+1+1,2,none⟩ (.slice A2 nr c2)) from
    ⟨A1,nr,c1,A2,nr,c2,by rw [Haut.out],ziJ,(hx0.trans (hx02.trans hx2r)).frm hf (fun k hk e=>by omega)⟩)
   clear ziJ hf
   go_wp2_with fail
   exact bodyPost_ret (v:=.tuple #[.agg #[.int .i64 (L:Nat),.slice A1 nr c1,.slice A2 nr c2],.bool true]) (by simp [results,Tryz.results71,go_sem,cf]) rfl hret.out
end
noncomputable def rnM (zs:List ByteArray):ByteArray→Option Nat:=fun y=>if zcm zs y=true then some (zhw zs y) else none
section
variable {zs:List ByteArray} {y z:ByteArray}
theorem rnM_nil:rnM []=fun _=>none:=funext fun y=>by
 unfold rnM
 rw [if_neg]
 rw [zai]
 simp
theorem idxS_old (h:y∈zs) (z:ByteArray):zhw (zs++[z]) y=zhw zs y:=by
 have h1:=zig h
 unfold zhw at h1 ⊢
 rw [List.findIdx_append,if_pos h1]
theorem idxS_last (h:z∉zs):zhw (zs++[z]) z=zs.length:=by
 unfold zhw
 rw [List.findIdx_append,if_neg]
 ·rw [List.findIdx_cons]
  have:zcm [z] z=true:=zai.2 (by simp)
  rw [this]
  simp
 ·intro hlt
  have h2:=List.findIdx_getElem (xs:=zs) (p:=fun y=>zcm [y] z) (w:=hlt)
  have h3:=zai.1 h2
  rw [List.mem_singleton] at h3
  exact h (h3 ▸ List.getElem_mem hlt)
theorem rnM_keep (h:zcm zs z=true):rnM (zs++[z])=rnM zs:=funext fun y=>by
 unfold rnM
 by_cases hy:y∈zs
 ·rw [if_pos (zai.2 (by simp [hy])),if_pos (zai.2 hy),idxS_old hy]
 ·rw [if_neg (fun h1=>hy (zai.1 h1)),if_neg]
  rw [zai,List.mem_append,List.mem_singleton]
  rintro (h1|rfl)
  ·exact hy h1
  ·exact hy (zai.1 h)
theorem rnM_add (h:zcm zs z=false):rnM (zs++[z])=updG (rnM zs) z zs.length:=funext fun y=>by
 have hz:z∉zs:=fun h1=>by rw [zai.2 h1] at h;cases h
 by_cases e:y=z
 ·subst e
  rw [updG_same]
  unfold rnM
  rw [if_pos (zai.2 (by simp)),idxS_last hz]
 ·rw [updG_ne _ _ e]
  unfold rnM
  by_cases hy:y∈zs
  ·rw [if_pos (zai.2 (by simp [hy])),if_pos (zai.2 hy),idxS_old hy]
  ·rw [if_neg,if_neg (fun h1=>hy (zai.1 h1))]
   rw [zai,List.mem_append,List.mem_singleton]
   rintro (h1|rfl)
   ·exact hy h1
   ·exact e rfl
theorem rnM_is:(rnM zs y).isSome=zcm zs y:=by
 unfold rnM
 cases zcm zs y<;>simp
end
def RetO (J:zbv) (u:Value) (B:Nat) (S:Nat→Prop) (W:World) (e:Ending) (W':World):Prop:=∃ S',e=.returned u∧Kp J B S W W' S'
structure zgg (b0 L:Nat) (f:ByteArray→Bool) (J:zbv) (kn:Nat) (rc:Value):Prop where
 ok:zbv.Ok b0 J
 in_:∀ args W,(callFunc kn args).run Tryz.prog W=.ok (.enter kn args) W
 ask:∀ (B:Nat) (W:World) (S:Nat→Prop) (x:ByteArray),J B W S→B<10000000→inB x L=true→x.size≤9000→Calls Tryz.prog kn #[rc,.string x] W (RetO J (.bool (f x)) (B+1) S W)
abbrev orcV (L kn:Nat) (rc:Value):Value:=.agg #[.int .i64 (L:Int),.func (.func kn) #[rc] #[]]
theorem Kp.back {J:zbv} {B:Nat} {S S':Nat→Prop} {W W1 W':World}(hx:Ext W W1) (k:Kp J B S W1 W' S'):Kp J B S W W' S':=
 ⟨k.j,⟨k.frm.os.trans hx.os,k.frm.tape.trans hx.tape,k.frm.output.trans hx.output,Nat.le_trans hx.size k.frm.size,fun i hi hn=>(k.frm.block i (Nat.lt_of_lt_of_le hi hx.size) hn).trans (hx.block i hi (fun h=>h))⟩,fun i hi=>by
  rcases k.new i hi with h|h
  ·exact .inl h
  ·exact .inr (Nat.le_trans hx.size h)⟩
structure zfn (W:World) (S:Nat→Prop) (base:Nat) (e:TypeId) (size:Nat) (v:Value) (n:Nat) (xs:List Value):Prop where
 own:W.ownsRow base e size v n xs
 far:∀ b,v.ownBlock=some b→¬ S b
section
variable {J:zbv} {B b0 base n size:Nat} {S S':Nat→Prop} {W W':World} {e:TypeId} {v:Value} {xs:List Value}
theorem zfn.kp (h:zfn W S base e size v n xs) (k:Kp J B S W W' S'):zfn W' S' base e size v n xs:=⟨(k.row h.own h.far).1,(k.row h.own h.far).2⟩
theorem zfn.ext (h:zfn W S base e size v n xs)(hx:Ext W W'):zfn W' S base e size v n xs:=⟨zh h.own hx,h.far⟩
theorem zfn.frm {T:Nat→Prop}(h:zfn W S base e size v n xs)(hf:Frm T W W')(hT:∀ b,v.ownBlock=some b→¬ T b):zfn W' S base e size v n xs:=⟨zg h.own hf hT,h.far⟩
theorem zfn.new (hJ:zbv.Ok b0 J)(hj:J B W S)(hx:W.heap.size≤base)(h:W'.ownsRow base e size v n xs):zfn W' S base e size v n xs:=
 ⟨h,fun b hb=>zbv.fresh hJ hj (by have:=(h.lt b hb).1;omega)⟩
end
structure zfW (W:World) (S:Nat→Prop) (base:Nat) (R:Option Addr) (nr cr:Nat) (C:Option Addr) (nc cc:Nat) (rows cols:List ByteArray):Prop where
 r:zfn W S base 9 1 (.slice R nr cr) nr (zL rows)
 c:zfn W S base 9 1 (.slice C nc cc) nc (zL cols)
section
variable {J:zbv} {B b0 base nr cr nc cc L:Nat} {S S':Nat→Prop} {W W':World} {R C:Option Addr} {rows cols:List ByteArray} {f:ByteArray→Bool}
theorem zfW.kp (h:zfW W S base R nr cr C nc cc rows cols) (k:Kp J B S W W' S'):zfW W' S' base R nr cr C nc cc rows cols:=⟨h.r.kp k,h.c.kp k⟩
theorem zfW.ext (h:zfW W S base R nr cr C nc cc rows cols)(hx:Ext W W'):zfW W' S base R nr cr C nc cc rows cols:=⟨h.r.ext hx,h.c.ext hx⟩
theorem zfW.lens (h:zfW W S base R nr cr C nc cc rows cols):rows.length=nr∧cols.length=nc:=by
 have h1:=zcS h.r.own
 have h2:=zcS h.c.own
 simp [zL] at h1 h2
 omega
theorem zgE {base n c k:Nat} {A:Option Addr} {l:List ByteArray} {x:ByteArray}(h:W.ownsRow base 9 1 (.slice A n c) n (zL l))(hk:l[k]?=some x):∃ g,A=some ⟨g,0,none⟩∧W.cell? ⟨g,k,none⟩=some (.string x):=by
 have hl:=zcS h
 have hkl:=(List.getElem?_eq_some_iff.1 hk).1
 simp [zL] at hl
 obtain⟨g,rfl,-,-⟩:=zaq h (by omega)
 refine⟨g,rfl,?_⟩
 rw [h.cellAt k (by omega)]
 simp [zL,hk]
theorem zbz.snoc (h:zbz L f rows cols) {r:ByteArray} {l:Nat}(hr:r∈rows)(hl:l<6)(hb:L.testBit l=true):inB (r++zbA l) L=true∧(r++zbA l).size≤13:=by
 obtain⟨h1,h2⟩:=h.rin hr
 exact⟨inB_snoc h1 (by omega) hl hb,by rw [ByteArray.size_append,zcc];omega⟩
theorem zhx {x y:ByteArray}(hx:inB x L=true)(hy:inB y L=true)(hs:x.size+y.size≤50000):inB (x++y) L=true:=by
 unfold inB at hx hy ⊢
 simp only [Bool.and_eq_true,decide_eq_true_eq] at hx hy ⊢
 refine⟨by rw [ByteArray.size_append];exact hs,?_⟩
 have h1:=hx.2
 have h2:=hy.2
 unfold zfw at h1 h2 ⊢
 rw [ByteArray.data_append,Array.toList_append,List.all_append,h1,h2]
 rfl
end
theorem bcl_set {l:List UInt8} {i:Nat} (v:UInt8):(bcl l).set i (.int .u8 (v.toNat:Nat))=bcl (l.set i v):=by simp [bcl,zhS,List.map_set]
theorem made_u8 (n:Nat):(madeCells (Value.int .u8 0).cells (n*1)).toList=bcl (List.replicate n 0):=by
 unfold madeCells bcl zhS
 simp only [Value.cells,Array.toList_map,Array.toList_range,List.map_map]
 refine List.ext_getElem? fun i=>?_
 simp only [List.getElem?_map,Nat.mul_one]
 by_cases hi:i<n
 ·rw [List.getElem?_range hi]
  simp [hi,Nat.mod_one]
 ·rw [List.getElem?_eq_none (by simpa using hi),List.getElem?_eq_none (by simpa using hi)]
  rfl
def mkU (b:Bool):UInt8:=if b then 43 else 45
theorem mkS_bytes {bs:List Bool} {l:List UInt8}(h:l=bs.map mkU):strOfNums (zhS l)=mkS bs:=by
 refine ByteArray.ext (Array.ext' ?_)
 rw [strOfNums_data,zeZ,h]
 simp only [zhS,List.map_map]
 refine List.map_congr_left fun b _=>?_
 cases b<;>rfl
section
variable {J:zbv} {B b0 L base nr cr nc cc kn:Nat} {S:Nat→Prop} {W:World} {R C:Option Addr} {rows cols:List ByteArray} {f:ByteArray→Bool} {rc:Value}
theorem or_marks {x:ByteArray}(hO:zgg b0 L f J kn rc)(hj:J B W S)(hB:B+20<10000000)(hC:zfn W S base 9 1 (.slice C nc cc) nc (zL cols))(hc20:nc≤20)(hcs:∀ y∈cols,inB y L=true∧y.size≤4000)(hx:inB x L=true)(hxs:x.size≤4000)(hb0:b0≤W.heap.size) :
  Calls Tryz.prog 159 #[orcV L kn rc,.agg #[.slice R nr cr,.slice C nc cc],.string x] W (RetO J (.string (mkS (zbq f cols x))) (B+20) S W):=by
 have HO:=za hO
 have HC:=za hC
 have Hcs:=za hcs
 have Hx:=za hx
 have hk0:=Kp.refl (J:=J) hj
 have hnc:=za (show cols.length=nc by have:=zcS hC.own;simpa [zL] using this)
 clear hO hC hcs hx
 have Hin:=HO.out.in_
 go_enter Tryz.func159,Tryz.ntmps159
 go_upto_region 1 with fail
 have hx1:Ext W ((W.alloc (.cells #[.int .i64 (L:Int),.func (.func kn) #[rc] #[]] 115)).alloc (.cells #[.slice R nr cr,.slice C nc cc] 101)):=((Ext.refl _).alloc _).alloc _
 obtain⟨b3,b4⟩:=zE (Ext.refl ((W.alloc (.cells #[.int .i64 (L:Int),.func (.func kn) #[rc] #[]] 115)).alloc (.cells #[.slice R nr cr,.slice C nc cc] 101)))
 have hsz1:((W.alloc (.cells #[.int .i64 (L:Int),.func (.func kn) #[rc] #[]] 115)).alloc (.cells #[.slice R nr cr,.slice C nc cc] 101)).heap.size=W.heap.size+2:=by simp
 generalize (W.alloc (.cells #[.int .i64 (L:Int),.func (.func kn) #[rc] #[]] 115)).alloc (.cells #[.slice R nr cr,.slice C nc cc] 101)=w1 at *
 have hj1:=HO.out.ok.keep hj hx1 (fun _ _ h=>h.elim)
 have hk1:=Kp.refl (J:=J) hj1
 have hS1:=za (fun (q:Nat) (hq:W.heap.size≤q)=>zbv.fresh HO.out.ok hj hq)
 have hsw:=hx1.size
 have hs1:=za hsz1
 have hs2:W.heap.size<w1.heap.size∧W.heap.size+1<w1.heap.size:=by omega
 clear hsz1
 have k4:=b4.cell
 go_upto_region 2 with (at_make;refine zar w1 w1 rfl _ _ 62 rfl 5 _ 1 1 Tryz.underlying62 zih _ _ nc rfl rfl (Ext.refl _) (by omega) (by unfold maxLen;omega) ?_;intro w2 hx12 ziT hx2 hsz2)
 rw [made_u8] at ziT
 have hk2:=za (hk1.ext HO.out.ok hx12)
 have hr2:=za (zfn.new HO.out.ok hj1 (Nat.le_refl _) ziT)
 have k4:=(b4.ext hx12).cell
 have B3:=za b3
 have B4:=za b4
 have hCw:=za (HC.out.ext hx1)
 clear b3 b4 ziT hx2 hx12 hk1 hk0 hj hj1
 obtain⟨g,hgg⟩:∃ g,Hid (g=w1.heap.size):=⟨_,za rfl⟩
 have hge:=hgg.out
 rw [← hge] at hr2 ⊢
 have hgw:w1.heap.size≤g:=by omega
 clear hge
 go_wp2_with fail
 go_loopw [8,9,17] (fun _ _ i wr=>∃ (k:Nat) (S1:Nat→Prop) (l:List UInt8),i=.int .i64 k∧k≤nc∧Hid (Kp J (B+k) S w1 wr S1)∧Hid (zfn wr S1 g 5 1 (.slice (some ⟨g,0,none⟩) nc nc) nc (bcl l))∧Hid (l.length=nc∧∀ (j:Nat) (y:ByteArray),j<k→cols[j]?=some y→l[j]?=some (mkU (f (x++y))))) (fun _ _ i _=>nc - (intOf i).toNat)
 case atStart=>exact⟨0,S,List.replicate nc 0,rfl,Nat.zero_le _,hk2,hr2,za ⟨by simp,fun j y h=>by omega⟩⟩
 case round =>
  clear hk2 hr2 k4
  obtain⟨k,S1,l,rfl,hk,hkp,hrow,hl⟩:=hrel
  have k3:=(hkp.out.blk B3.out (hS1.out _ (Nat.le_refl _))).1.cell
  have k4:=(hkp.out.blk B4.out (hS1.out _ (by omega))).1.cell
  by_cases hlt:k<nc
  ·have hlt':(k:Int)<(nc:Int):=by omega
   obtain⟨y,hy⟩:∃ y,cols[k]?=some y:=⟨_,List.getElem?_eq_getElem (by have:=hnc.out;omega)⟩
   have Hy:=za hy
   obtain⟨hyin,hys⟩:=Hcs.out y (List.mem_of_getElem? hy)
   obtain⟨gC,rfl,hc⟩:=zgE (hCw.out.kp hkp.out).own hy
   have Hyin:=za hyin
   clear hy hyin
   obtain⟨o0,g0⟩:=zau hrow.out.own k (by omega)
   have f0:=hrow.out.own.frozenAt k
   have hss:=hrow.out.own.stored k (.int .u8 45)
   rw [show (Value.int .u8 45)=.int .u8 ((45:UInt8).toNat:Nat) from rfl,bcl_set] at hss
   have hb0g:b0≤g:=by omega
   have hgS:¬ S1 g:=hrow.out.far g rfl
   have hlen:=za (show l.length=nc from hl.out.1)
   have hxy:=za (zhx Hx.out Hyin.out (by omega))
   have hxys:(x++y).size≤9000:=by rw [ByteArray.size_append];omega
   have hk1:=za (hkp.out.cell HO.out.ok hgw hb0g hgS k (.int .u8 45))
   have hr1:=za (show zfn (wr.setCell ⟨g,k,none⟩ (.int .u8 45)) S1 g 5 1 (.slice (some ⟨g,0,none⟩) nc nc) nc (bcl (l.set k 45)) from ⟨hss.1,hrow.out.far⟩)
   go_upto_region 6 with fail
   have k3:=(hk1.out.blk B3.out (hS1.out _ (Nat.le_refl _))).1.cell
   have k4:=(hk1.out.blk B4.out (hS1.out _ (by omega))).1.cell
   clear hss g0 f0 hc hkp hrow
   generalize wr.setCell ⟨g,k,none⟩ (.int .u8 45)=w5 at *
   have hask:=za (HO.out.ask (B+k) w5 S1 (x++y) hk1.out.j (by omega) hxy.out hxys)
   have hnext:∀ (b:UInt8) (l':List UInt8),b=mkU (f (x++y))→l'=l.set k b→Hid (l'.length=nc∧∀ (j:Nat) (y:ByteArray),j<k+1→cols[j]?=some y→l'[j]?=some (mkU (f (x++y)))):=fun b l' hb hl'=>by
    subst hl'
    refine⟨by rw [List.length_set];exact hlen.out,fun j z hj hz=>?_⟩
    by_cases e:j=k
    ·subst e
     obtain rfl:=Option.some.inj (Hy.out.symm.trans hz)
     rw [List.getElem?_set_self (by rw [hlen.out];exact hlt),hb]
    ·rw [List.getElem?_set_ne (fun e'=>e e'.symm)]
     exact hl.out.2 j z (by omega) hz
   cases hf:f (x++y) with
   |false =>
    have hn:=hnext 45 _ (by rw [hf];rfl) rfl
    rw [hf] at hask
    clear hf hnext
    go_upto_if 30 with fail
    refine hask.out.mono ?_
    rintro e w6 ⟨S2,rfl,hk6⟩
    have hk16:=za (hk1.out.trans hk6)
    have hr6:=za (hr1.out.kp hk6)
    clear k3 k4 hk6 hk1 hr1 hask
    go_wp2_with fail
    go_roundw
    case rel=>exact⟨k+1,S2,_,by go_num,by omega,hk16,hr6,hn⟩
    case measure=>simp [intOf];omega
   |true =>
    have hn:=hnext 43 ((l.set k 45).set k 43) (by rw [hf];rfl) (by rw [List.set_set])
    rw [hf] at hask
    clear hf hnext
    go_upto_if 30 with fail
    refine hask.out.mono ?_
    rintro e w6 ⟨S2,rfl,hk6⟩
    have hk16:=hk1.out.trans hk6
    have hr6:=hr1.out.kp hk6
    obtain⟨o6,g6⟩:=zau hr6.own k (by omega)
    have f6:=hr6.own.frozenAt k
    have hss:=hr6.own.stored k (.int .u8 43)
    rw [show (Value.int .u8 43)=.int .u8 ((43:UInt8).toNat:Nat) from rfl,bcl_set] at hss
    have hk17:=za (hk16.cell HO.out.ok hgw hb0g (hr6.far g rfl) k (.int .u8 43))
    have hr7:=za (show zfn (w6.setCell ⟨g,k,none⟩ (.int .u8 43)) S2 g 5 1 (.slice (some ⟨g,0,none⟩) nc nc) nc (bcl ((l.set k 45).set k 43)) from ⟨hss.1,hr6.far⟩)
    clear k3 k4 hk6 hk1 hr1 hask hss hr6 hk16
    go_wp2_with fail
    go_roundw
    case rel=>exact⟨k+1,S2,_,by go_num,by omega,hk17,hr7,hn⟩
    case measure=>simp [intOf];omega
  ·obtain rfl:k=nc:=by omega
   have hle:l=(zbq f cols x).map mkU:=by
    obtain⟨h1,h2⟩:=hl.out
    refine List.ext_getElem? fun j=>?_
    unfold zbq
    rw [List.map_map,List.getElem?_map]
    cases hc:cols[j]? with
    |none=>rw [List.getElem?_eq_none (by have:=List.getElem?_eq_none_iff.1 hc;have:=hnc.out;omega)];rfl
    |some y=>rw [h2 j y (by have:=(List.getElem?_eq_some_iff.1 hc).1;have:=hnc.out;omega) hc];rfl
   have ziM:=za (mkS_bytes hle)
   have hres:=za (show RetO J (.string (mkS (zbq f cols x))) (B+20) S W (.returned (.string (mkS (zbq f cols x)))) wr from ⟨S1,rfl,(hkp.out.more HO.out.ok (by omega)).back hx1⟩)
   have hcv:=zhW hrow.out.own
   clear hle
   go_wp2_with (simp only [hcv])
   rw [ziM.out]
   go_ret
   exact hres.out
end
end Go.Proofs.YtcfchopfijalpaaGreatDoor
namespace Go.Proofs.YtcfchopfijalpaaGreatDoor
open Go Go.RowKit Go.Maps
section
variable {α:Type} {mt kt:TypeId} {val:α→Value} {lit:α→Lit} {dom:α→Prop} (w:World) {o:Oper} {a:Act} {Q:Exit→Act→World→Prop} {K':Act→World→Prop}
theorem wp_mapSetG (K:KeyG mt kt val lit dom) (m x v:Operand)(hop:o.op=Op.mapUpdate mt m x v∨o.op=Op.insert mt m x v) {b n:Nat} {M:α→Option Nat}
  (hm:a.eval m=.map (some b)) (h:zdw kt lit dom w b n M) (hn:n<1152921504606846976) (key:α) (v9:Nat) (hx:a.eval x=val key) (hv:a.eval v=.int .i64 (v9:Int)) (hk:dom key) (hv9:v9<1152921504606846976)
  (hK:∀ w',zdw kt lit dom w' b (n+1) (updG M key v9)→w.grownBy w' (some b)→K' (a.put o.dst undef) w'):o.wp Tryz.prog a w K' Q:=by
 obtain⟨D,ziJ,hD⟩:=h
 have hkey:=K.key hk
 obtain⟨w',hrun,r1,r2⟩:=ziJ.update K.keyed K.und (by unfold maxLen;omega) hkey (plainElem_int (H:=Unit) Tryz.underlying3 (wfG hv9))
 have hmap:zdw kt lit dom w' b (n+1) (updG M key v9):=⟨_,r1,fun y hy=>by
  unfold updG
  by_cases e:y=key
  ·subst e
   rw [if_pos rfl]
   exact⟨has_put_same ziJ.isMap (K.keyed.key hkey) _,fun u hu=>by rw [atKey_put_same ziJ.isMap (K.keyed.key hkey)];cases hu;rfl⟩
  ·have hne:lit y≠lit key:=fun h=>e (K.inj hy hk h)
   rw [if_neg e,has_put_other hne,atKey_put_other hne]
   exact hD y hy⟩
 unfold Oper.wp
 rcases hop with hop|hop
 all_goals
  simp [execOp,hop,hm,hx,hv,hrun,Result.andThen]
  exact hK w' hmap r2
theorem wp_mapOkG (K:KeyG mt kt val lit dom) (m x:Operand)(hop:o.op=Op.lookup mt m x true) {b n:Nat} {M:α→Option Nat}
  (hm:a.eval m=.map (some b)) (h:zdw kt lit dom w b n M) (key:α) (hx:a.eval x=val key) (hk:dom key)
  (hK:∀ c:Int,(∀ v,M key=some v→c=(v:Int))→K' (a.put o.dst (.tuple #[.int .i64 c,.bool (M key).isSome])) w):o.wp Tryz.prog a w K' Q:=by
 obtain⟨D,ziJ,hD⟩:=h
 obtain⟨v,ps,hrun,hv⟩:=ziJ.look_ok K.keyed K.und (zeroG w) (zd:=.lit (.int .i64 0)) (zp:=[]) (plainElem_int Tryz.underlying3 (by decide)) (K.key hk)
 obtain⟨c,rfl,hc,hwc⟩:=plainElem_int_inv Tryz.underlying3 hv
 have hat:=congrArg Prod.fst hc
 unfold Oper.wp
 simp [execOp,hop,hm,hx,hrun,Result.andThen]
 have h2:=hK c (fun v hv=>by
  have:=(hD key hk).2 v hv
  rw [this] at hat
  have h3:=hat
  simp only [DataW.lit.injEq,Lit.int.injEq,true_and] at h3
  exact h3.symm)
 rw [← (hD key hk).1] at h2
 exact h2
theorem wp_mapAtG (K:KeyG mt kt val lit dom) (m x:Operand)(hop:o.op=Op.lookup mt m x false) {b n:Nat} {M:α→Option Nat}
  (hm:a.eval m=.map (some b)) (h:zdw kt lit dom w b n M) (key:α) (v9:Nat) (hx:a.eval x=val key) (hk:dom key) (hM:M key=some v9)
  (hK:K' (a.put o.dst (.int .i64 (v9:Int))) w):o.wp Tryz.prog a w K' Q:=by
 obtain⟨D,ziJ,hD⟩:=h
 obtain⟨c,hrun,hat,hwc⟩:=ziJ.lookup_int K.keyed K.und Tryz.underlying3 (zeroG w) (K.key hk)
 have:=(hD key hk).2 v9 hM
 rw [this] at hat
 injection hat with hat
 injection hat with _ hat
 unfold Oper.wp
 simp [execOp,hop,hm,hx,hrun,Result.andThen]
 rw [← hat]
 exact hK
end
end Go.Proofs.YtcfchopfijalpaaGreatDoor
namespace Go.Proofs.YtcfchopfijalpaaGreatDoor
open Go Go.RowKit
abbrev domS (x:ByteArray):Prop:=x.size≤9223372036854775807
abbrev zeE (w:World) (b n:Nat) (M:ByteArray→Option Nat):Prop:=zdw 9 (fun x:ByteArray=>Lit.string x.data.toList) domS w b n M
def RetRN (J:zbv) (M:ByteArray→Option Nat) (B:Nat) (S:Nat→Prop) (W:World) (e:Ending) (W':World):Prop:=
 ∃ (S':Nat→Prop) (mb n:Nat),e=.returned (.map (some mb))∧zeE W' mb n M∧¬ S' mb∧W.heap.size≤mb∧n≤12∧Kp J B S W W' S'
theorem mkS_dom {f:ByteArray→Bool} {cols:List ByteArray}(h:cols.length≤20) (x:ByteArray):domS (mkS (zbq f cols x)):=by
 unfold domS
 rw [mkS_size]
 simp [zbq]
 omega
section
variable {J:zbv} {B b0 L base nr cr nc cc kn:Nat} {S S':Nat→Prop} {W W':World} {R C:Option Addr} {rows cols:List ByteArray} {f:ByteArray→Bool} {rc:Value}
theorem zeE.kp {mb n:Nat} {M:ByteArray→Option Nat}(h:zeE W mb n M)(hS:¬ S mb) (k:Kp J B S W W' S'):zeE W' mb n M∧¬ S' mb:=⟨h.frm k.frm hS,k.out h.lt hS⟩
theorem zgD {x:ByteArray}(hO:zgg b0 L f J kn rc)(hj:J B W S)(hB:B+20<10000000)(hT:zfW W S base R nr cr C nc cc rows cols)(hI:zbz L f rows cols)(hx:inB x L=true)(hxs:x.size≤4000)(hb0:b0≤W.heap.size) :
  Calls Tryz.prog 159 #[orcV L kn rc,.agg #[.slice R nr cr,.slice C nc cc],.string x] W (RetO J (.string (mkS (zbq f cols x))) (B+20) S W):=
 or_marks hO hj hB hT.c (by rw [← hT.lens.2];exact hI.c20) (fun y hy=>hI.cin hy) hx hxs hb0
theorem zfb (hO:zgg b0 L f J kn rc)(hj:J B W S)(hB:B+240<10000000)(hT:zfW W S base R nr cr C nc cc rows cols)(hI:zbz L f rows cols)(hb0:b0≤W.heap.size) :
  Calls Tryz.prog 157 #[orcV L kn rc,.agg #[.slice R nr cr,.slice C nc cc]] W (RetRN J (rnM (zal f cols rows)) (B+240) S W):=by
 have HO:=za hO
 have HI:=za hI
 have hlr:=za hT.lens
 have hnr12:nr≤12:=by rw [← hT.lens.1];exact hI.r12
 have hnc20:=za hI.c20
 have hmm:=@run_makeMap Tryz.prog
 have hx1:Ext W ((W.alloc (.cells #[.int .i64 (L:Int),.func (.func kn) #[rc] #[]] 115)).alloc (.cells #[.slice R nr cr,.slice C nc cc] 101)):=((Ext.refl _).alloc _).alloc _
 obtain⟨b3,b4⟩:=zE (Ext.refl ((W.alloc (.cells #[.int .i64 (L:Int),.func (.func kn) #[rc] #[]] 115)).alloc (.cells #[.slice R nr cr,.slice C nc cc] 101)))
 have hS1:=za (fun (q:Nat) (hq:W.heap.size≤q)=>zbv.fresh hO.ok hj hq)
 have hj1:=hO.ok.keep hj hx1 (fun _ _ h=>h.elim)
 have hTw:=za (hT.ext hx1)
 have hs2:W.heap.size<((W.alloc (.cells #[.int .i64 (L:Int),.func (.func kn) #[rc] #[]] 115)).alloc (.cells #[.slice R nr cr,.slice C nc cc] 101)).heap.size∧W.heap.size+1<((W.alloc (.cells #[.int .i64 (L:Int),.func (.func kn) #[rc] #[]] 115)).alloc (.cells #[.slice R nr cr,.slice C nc cc] 101)).heap.size:=by simp;omega
 clear hO hI hT hj
 go_enter Tryz.func157,Tryz.ntmps157
 go_upto_region 1 with fail
 generalize (W.alloc (.cells #[.int .i64 (L:Int),.func (.func kn) #[rc] #[]] 115)).alloc (.cells #[.slice R nr cr,.slice C nc cc] 101)=w1 at *
 have hx12:Ext w1 (w1.alloc (.map #[] 0)):=(Ext.refl _).alloc _
 have hmp0:zeE (w1.alloc (.map #[] 0)) w1.heap.size 0 (fun _=>none):=zdw.made w1
 have hk1:=za ((Kp.refl hj1).ext HO.out.ok hx12)
 have B3:=za b3
 have B4:=za b4
 go_upto_region 2 with fail
 obtain⟨mb,hgg⟩:∃ mb,Hid (mb=w1.heap.size):=⟨_,za rfl⟩
 have hge:=hgg.out
 rw [← hge] at hmp0 ⊢
 have hgw:w1.heap.size≤mb:=by omega
 clear hge
 have k4:=(b4.ext hx12).cell
 have hmS:¬ S mb:=hS1.out mb (by omega)
 have hst0:Hid (zeE (w1.alloc (.map #[] 0)) mb 0 (rnM ((zal f cols rows).take 0))∧¬ S mb):=⟨by rw [List.take_zero,rnM_nil];exact hmp0,hmS⟩
 clear b3 b4 hmp0 hj1 hmS
 generalize w1.alloc (.map #[] 0)=w2 at *
 clear hx12
 go_wp2_with fail
 go_loopw [6,7,8,9,10,15] (fun _ _ _ _ _ i wr=>∃ (k n:Nat) (S1:Nat→Prop),i=.int .i64 k∧k≤nr∧n≤k∧Hid (Kp J (B+20*k) S w1 wr S1)∧Hid (zeE wr mb n (rnM ((zal f cols rows).take k))∧¬ S1 mb)) (fun _ _ _ _ _ i _=>nr - (intOf i).toNat)
 case atStart=>exact⟨0,0,S,rfl,Nat.zero_le _,Nat.zero_le _,hk1,hst0⟩
 case round =>
  clear hk1 hst0 k4
  obtain⟨k,n,S1,rfl,hk,hnk,hkp,hst⟩:=hrel
  have k3:=(hkp.out.blk B3.out (hS1.out _ (Nat.le_refl _))).1.cell
  have k4:=(hkp.out.blk B4.out (hS1.out _ (by omega))).1.cell
  by_cases hlt:k<nr
  ·have hlt':(k:Int)<(nr:Int):=by omega
   obtain⟨x,hx⟩:∃ x,rows[k]?=some x:=⟨_,List.getElem?_eq_getElem (by have:=hlr.out.1;omega)⟩
   have Hx:=za hx
   obtain⟨gR,rfl,hc⟩:=zgE (hTw.out.kp hkp.out).r.own hx
   obtain⟨hin,hxs⟩:=HI.out.rin (List.mem_of_getElem? hx)
   have Hin:=za hin
   have HTr:=za (hTw.out.kp hkp.out)
   obtain⟨z,hz⟩:∃ z,Hid (mkS (zbq f cols x)=z):=⟨_,za rfl⟩
   have hmk:=za (zgD (x:=x) HO.out hkp.out.j (by omega) HTr.out HI.out Hin.out (by omega) (by have:=hkp.out.size;omega))
   rw [hz.out] at hmk
   have hdz:=za (show domS z by rw [← hz.out];exact mkS_dom hnc20.out x)
   have htk:=za (show (zal f cols rows).take (k+1)=(zal f cols rows).take k++[z] by
    rw [List.take_add_one]
    congr 1
    unfold zal
    rw [List.getElem?_map,Hx.out,← hz.out]
    rfl)
   have hlk:=za (show ((zal f cols rows).take k).length=k by rw [List.length_take];simp only [zal,List.length_map];have:=hlr.out.1;omega)
   clear hx hin
   have hnb:n<1152921504606846976:=by omega
   cases hm:zcm ((zal f cols rows).take k) z with
   |true =>
    have hrn:=za (show rnM ((zal f cols rows).take (k+1))=rnM ((zal f cols rows).take k) by rw [htk.out,rnM_keep hm])
    have hso:=za (show (rnM ((zal f cols rows).take k) z).isSome=true by rw [rnM_is,hm])
    clear hm
    go_upto_region 6 with (go_at_call 159;refine hmk.out.mono ?_;rintro e w5 ⟨S2,rfl,hk5⟩)
    obtain⟨hm5,hs5⟩:=zeE.kp hst.out.1 hst.out.2 hk5
    have hk15:=za (hkp.out.trans hk5)
    have hst5:=za (show zeE w5 mb n (rnM ((zal f cols rows).take (k+1)))∧¬ S2 mb by rw [hrn.out];exact⟨hm5,hs5⟩)
    clear k3 k4 hc hk5 hs5
    go_wp2_with (refine zco (key:=z) _ keyS rfl _ _ rfl rfl hm5 rfl hdz.out ?_;rw [hso.out];intro cc' hcc;clear hcc)
    go_roundw
    case rel=>exact⟨k+1,n,S2,by go_num,by omega,by omega,za (by have:=hk15.out;rwa [show B+20*k+20=B+20*(k+1) by omega] at this),hst5⟩
    case measure=>simp [intOf];omega
   |false =>
    have hrn:=za (show rnM ((zal f cols rows).take (k+1))=updG (rnM ((zal f cols rows).take k)) z k by rw [htk.out,rnM_add hm,hlk.out])
    have hso:=za (show (rnM ((zal f cols rows).take k) z).isSome=false by rw [rnM_is,hm])
    clear hm
    go_upto_region 6 with (go_at_call 159;refine hmk.out.mono ?_;rintro e w5 ⟨S2,rfl,hk5⟩)
    obtain⟨hm5,hs5⟩:=zeE.kp hst.out.1 hst.out.2 hk5
    have hk15:=za (hkp.out.trans hk5)
    clear k3 k4 hc hk5
    have hb0m:b0≤mb:=by omega
    go_wp2_with (first
     |(refine zco (key:=z) _ keyS rfl _ _ rfl rfl hm5 rfl hdz.out ?_;rw [hso.out];intro cc' hcc;clear hcc)
     |(refine zho (key:=z) (v9:=k) (b:=mb) _ keyS rfl _ _ _ (.inl rfl) rfl hm5 hnb rfl rfl hdz.out (by omega) ?_;intro w6 hm6 hg6))
    have hk16:=za (hk15.out.grown HO.out.ok hg6 (fun q hq=>by
     obtain rfl:=Option.some.inj hq
     exact⟨hgw,hb0m,hs5⟩))
    have hst6:=za (show zeE w6 mb (n+1) (rnM ((zal f cols rows).take (k+1)))∧¬ S2 mb by rw [hrn.out];exact⟨hm6,hs5⟩)
    go_roundw
    case rel=>exact⟨k+1,n+1,S2,by go_num,by omega,by omega,za (by have:=hk16.out;rwa [show B+20*k+20=B+20*(k+1) by omega] at this),hst6⟩
    case measure=>simp [intOf];omega
  ·obtain rfl:k=nr:=by omega
   have hres:=za (show RetRN J (rnM (zal f cols rows)) (B+240) S W (.returned (.map (some mb))) wr from ⟨S1,mb,n,rfl,by
    have:=hst.out.1
    rwa [List.take_of_length_le (by simp only [zal,List.length_map];have:=hlr.out.1;omega)] at this,hst.out.2,by omega,by omega,(hkp.out.more HO.out.ok (by omega)).back hx1⟩)
   go_wp2_with fail
   go_ret
   exact hres.out
end
theorem conv_rune0 (w:World):(convert 21 9 (.int .i32 97)).run Tryz.prog w=.ok (.string (zbA 0)) w:=by kernel_rfl
theorem conv_rune1 (w:World):(convert 21 9 (.int .i32 98)).run Tryz.prog w=.ok (.string (zbA 1)) w:=by kernel_rfl
theorem conv_rune2 (w:World):(convert 21 9 (.int .i32 99)).run Tryz.prog w=.ok (.string (zbA 2)) w:=by kernel_rfl
theorem conv_rune3 (w:World):(convert 21 9 (.int .i32 100)).run Tryz.prog w=.ok (.string (zbA 3)) w:=by kernel_rfl
theorem conv_rune4 (w:World):(convert 21 9 (.int .i32 101)).run Tryz.prog w=.ok (.string (zbA 4)) w:=by kernel_rfl
theorem conv_rune5 (w:World):(convert 21 9 (.int .i32 102)).run Tryz.prog w=.ok (.string (zbA 5)) w:=by kernel_rfl
theorem conv_rune {l:Nat}(hl:l<6) (w:World):(convert 21 9 (.int .i32 ((97+l:Nat):Int))).run Tryz.prog w=.ok (.string (zbA l)) w:=by
 have h6:l=0∨l=1∨l=2∨l=3∨l=4∨l=5:=by omega
 rcases h6 with rfl|rfl|rfl|rfl|rfl|rfl
 ·exact conv_rune0 w
 ·exact conv_rune1 w
 ·exact conv_rune2 w
 ·exact conv_rune3 w
 ·exact conv_rune4 w
 ·exact conv_rune5 w
section
variable {J:zbv} {B b0 L base nr cr nc cc kn:Nat} {S S':Nat→Prop} {W W':World} {R C:Option Addr} {rows cols:List ByteArray} {f:ByteArray→Bool} {rc:Value}
theorem or_firstOpen (hO:zgg b0 L f J kn rc)(hj:J B W S)(hB:B+1680<10000000)(hT:zfW W S base R nr cr C nc cc rows cols)(hI:zbz L f rows cols)(hb0:b0≤W.heap.size)(hL:L<64) :
  Calls Tryz.prog 232 #[orcV L kn rc,.agg #[.slice R nr cr,.slice C nc cc]] W (RetO J (.tuple #[.string ((zav L f rows cols).getD ⟨#[]⟩),.bool (zav L f rows cols).isSome]) (B+1680) S W):=by
 have HO:=za hO
 have HI:=za hI
 have hlr:=za hT.lens
 have hnr12:nr≤12:=by rw [← hT.lens.1];exact hI.r12
 have hx1:Ext W ((W.alloc (.cells #[.int .i64 (L:Int),.func (.func kn) #[rc] #[]] 115)).alloc (.cells #[.slice R nr cr,.slice C nc cc] 101)):=((Ext.refl _).alloc _).alloc _
 obtain⟨b3,b4⟩:=zE (Ext.refl ((W.alloc (.cells #[.int .i64 (L:Int),.func (.func kn) #[rc] #[]] 115)).alloc (.cells #[.slice R nr cr,.slice C nc cc] 101)))
 have hS1:=za (fun (q:Nat) (hq:W.heap.size≤q)=>zbv.fresh hO.ok hj hq)
 have hj1:=hO.ok.keep hj hx1 (fun _ _ h=>h.elim)
 have hTw:=za (hT.ext hx1)
 have hs2:W.heap.size<((W.alloc (.cells #[.int .i64 (L:Int),.func (.func kn) #[rc] #[]] 115)).alloc (.cells #[.slice R nr cr,.slice C nc cc] 101)).heap.size∧W.heap.size+1<((W.alloc (.cells #[.int .i64 (L:Int),.func (.func kn) #[rc] #[]] 115)).alloc (.cells #[.slice R nr cr,.slice C nc cc] 101)).heap.size:=by simp;omega
 have hsmL:Sm L:=by unfold Sm;omega
 clear hO hI hT hj
 go_enter Tryz.func232,Tryz.ntmps232
 go_upto_region 1 with fail
 generalize (W.alloc (.cells #[.int .i64 (L:Int),.func (.func kn) #[rc] #[]] 115)).alloc (.cells #[.slice R nr cr,.slice C nc cc] 101)=w1 at *
 have k3:=b3.cell
 have k4:=b4.cell
 have hrn:=za (zfb HO.out hj1 (by omega) hTw.out HI.out (by omega))
 have hop:=za (show zav L f rows cols=(rows.flatMap fun r=>(letters L 6).map fun l=>r++zbA l).find? (fun x=>!zcm (zal f cols rows) (mkS (zbq f cols x))) from rfl)
 obtain⟨op,hope⟩:∃ op,Hid (zav L f rows cols=op):=⟨_,za rfl⟩
 rw [hope.out] at hop ⊢
 have hlm:=za (fun l (hl:l∈letters L 6)=>zz.1 hl)
 have hls:(letters L 6).length≤6:=zI L 6
 obtain⟨ls,hlse⟩:∃ ls,Hid (letters L 6=ls):=⟨_,za rfl⟩
 rw [hlse.out] at hop hlm hls
 obtain⟨zs,hzse⟩:∃ zs,Hid (zal f cols rows=zs):=⟨_,za rfl⟩
 rw [hzse.out] at hop hrn
 have hnc20:=za HI.out.c20
 go_upto_region 2 with (go_at_call 157;refine hrn.out.mono ?_;rintro e w2 ⟨S2,mb,n,rfl,hm2,hs2b,hmge,hn12,hk2⟩)
 have B3:=za b3
 have B4:=za b4
 have hk2h:=za hk2
 have hst0:=za (show zeE w2 mb n (rnM zs)∧¬ S2 mb from ⟨hm2,hs2b⟩)
 have k4:=(hk2.blk b4 (hS1.out _ (by omega))).1.cell
 clear b3 b4 k3 hk2 hm2 hs2b hrn hj1
 go_wp2_with fail
 go_loopw [8,10,11,12,13,20] (fun _ _ _ _ _ iv wr=>∃ (i:Nat) (S1:Nat→Prop),iv=.int .i64 i∧i≤nr∧Hid (Kp J (B+240+120*i) S w1 wr S1)∧Hid (zeE wr mb n (rnM zs)∧¬ S1 mb)∧Hid (∀ x∈(rows.take i).flatMap (fun r=>ls.map fun l=>r++zbA l),zcm zs (mkS (zbq f cols x))=true)) (fun _ _ _ _ _ iv _=>nr - (intOf iv).toNat)
 case atStart=>exact⟨0,S2,rfl,Nat.zero_le _,hk2h,hst0,za (fun x hx=>by simp at hx)⟩
 case round =>
  clear hk2h hst0 k4
  obtain⟨i,S1,rfl,hi,hkp,hst,hdone⟩:=hrel
  have k3:=(hkp.out.blk B3.out (hS1.out _ (Nat.le_refl _))).1.cell
  have k4:=(hkp.out.blk B4.out (hS1.out _ (by omega))).1.cell
  by_cases hlt:i<nr
  ·have hlt':(i:Int)<(nr:Int):=by omega
   obtain⟨x,hx⟩:∃ x,rows[i]?=some x:=⟨_,List.getElem?_eq_getElem (by have:=hlr.out.1;omega)⟩
   have Hx:=za hx
   obtain⟨gR,rfl,hc⟩:=zgE (hTw.out.kp hkp.out).r.own hx
   have hxr:=za (List.mem_of_getElem? hx)
   have hxs:x.size≤12:=(HI.out.rin hxr.out).2
   have hwrS:=za (fun (q:Nat) (hq:wr.heap.size≤q)=>zbv.fresh HO.out.ok hkp.out.j hq)
   clear hx
   go_upto_region 6 with (go_at_call 158;refine (zY L hsmL _).mono ?_;rintro e w3 ⟨AL,cL,rfl,hownL,hx3⟩)
   rw [hlse.out] at hownL ⊢
   have hk3:=za (hkp.out.ext HO.out.ok hx3)
   have hst3:=za (show zeE w3 mb n (rnM zs)∧¬ S1 mb from ⟨hst.out.1.ext hx3,hst.out.2⟩)
   have hrl0:=za (show zfn w3 S1 wr.heap.size 3 1 (.slice AL ls.length cL) ls.length (zS ls) from ⟨hownL,fun b hb=>hwrS.out b (hownL.lt b hb).1⟩)
   obtain⟨bl,hble⟩:∃ bl,Hid (bl=wr.heap.size):=⟨_,za rfl⟩
   rw [← hble.out] at hrl0
   clear hownL hx3 k3 k4 hc hst hwrS
   go_wp2_with fail
   go_loopw [10,11,12,13,28] (fun _ _ _ _ kv wr=>∃ (k:Nat) (S3:Nat→Prop),kv=.int .i64 k∧k≤ls.length∧Hid (Kp J (B+240+120*i+20*k) S w1 wr S3)∧Hid (zeE wr mb n (rnM zs)∧¬ S3 mb)∧Hid (zfn wr S3 bl 3 1 (.slice AL ls.length cL) ls.length (zS ls))∧Hid (∀ y∈(ls.take k).map (fun l=>x++zbA l),zcm zs (mkS (zbq f cols y))=true)) (fun _ _ _ _ kv _=>ls.length - (intOf kv).toNat)
   case atStart=>exact⟨0,S1,rfl,Nat.zero_le _,hk3,hst3,hrl0,za (fun y hy=>by simp at hy)⟩
   case round =>
    clear hk3 hst3 hrl0
    obtain⟨k,S3,rfl,hk,hk3,hst,hrl,hdk⟩:=hrel
    have k3:=(hk3.out.blk B3.out (hS1.out _ (Nat.le_refl _))).1.cell
    have k4:=(hk3.out.blk B4.out (hS1.out _ (by omega))).1.cell
    by_cases hkl:k<ls.length
    ·have hkl':(k:Int)<(ls.length:Int):=by omega
     obtain⟨l,hl⟩:∃ l,ls[k]?=some l:=⟨_,List.getElem?_eq_getElem hkl⟩
     obtain⟨hl6,hlb⟩:=hlm.out l (List.mem_of_getElem? hl)
     have Hlb:=za hlb
     have Hl:=za hl
     obtain⟨gl,rfl,-,-⟩:=zaq hrl.out.own (by omega)
     have cl:=zcx hrl.out.own hkl
     rw [List.getD_eq_getElem?_getD,hl,Option.getD_some] at cl
     have hcr:∀ X:World,(convert 21 9 (.int .i32 (97+(l:Int)))).run Tryz.prog X=.ok (.string (zbA l)) X:=fun X=>by
      have:=conv_rune hl6 X
      rwa [Int.natCast_add] at this
     have hw32:IntKind.i32.wrap (97+(l:Int))=97+(l:Int):=by
      simp [IntKind.wrap,IntKind.bits,IntKind.signed]
      omega
     have hsnoc:=za (HI.out.snoc hxr.out hl6 hlb)
     obtain⟨z,hz⟩:∃ z,Hid (zbA l=z):=⟨_,za rfl⟩
     have hz1:z.size=1:=by rw [← hz.out];exact zcc l
     obtain⟨y,hy⟩:∃ y,Hid (x++z=y):=⟨_,za rfl⟩
     have hyl:=za (show x++zbA l=y by rw [hz.out,hy.out])
     rw [hyl.out] at hsnoc
     have hsz:¬ 9223372036854775807<x.size+1:=by omega
     rw [hz.out] at hcr
     have HTr:=za (hTw.out.kp hk3.out)
     have hmk:=za (zgD (x:=y) HO.out hk3.out.j (by omega) HTr.out HI.out hsnoc.out.1 (by have:=hsnoc.out.2;omega) (by have:=hk3.out.size;omega))
     obtain⟨m9,hm9⟩:∃ m9,Hid (mkS (zbq f cols y)=m9):=⟨_,za rfl⟩
     rw [hm9.out] at hmk
     have hdm:=za (show domS m9 by rw [← hm9.out];exact mkS_dom hnc20.out y)
     have hyr:=hy.out
     clear hl hlb
     cases hm:zcm zs m9 with
     |false =>
      have Hm:=za hm
      have hso:=za (show (rnM zs m9).isSome=false by rw [rnM_is,hm])
      have hsome:=za (show op=some y by
       rw [hop.out]
       exact open_find Hx.out Hl.out hyl.out hdone.out hdk.out (by rw [hm9.out];exact Hm.out))
      clear hm
      go_upto_region 8 with fail
      go_upto_region 9 with ((go_at_call 160;refine (zbj hl6 _).mono ?_;rintro e w7 ⟨rfl,rfl⟩))
      go_wp2_with (first
       |(go_at_call 160;refine (zbj hl6 _).mono ?_;rintro e w7 ⟨rfl,rfl⟩)
       |(go_at_call 159;refine hmk.out.mono ?_;rintro e w5 ⟨S5,rfl,hk5⟩;obtain⟨hm5,hs5⟩:=zeE.kp hst.out.1 hst.out.2 hk5)
       |(at_lookup;refine zco (key:=m9) _ keyS rfl _ _ rfl rfl hm5 rfl hdm.out ?_;rw [hso.out];intro cc' hcc;clear hcc))
      go_ret2
      exact⟨S5,by rw [hope.out,hsome.out];rfl,((hk3.out.trans hk5).more HO.out.ok (by omega)).back hx1⟩
     |true =>
      have Hm:=za hm
      have hso:=za (show (rnM zs m9).isSome=true by rw [rnM_is,hm])
      have hdk2:=za (show ∀ y∈(ls.take (k+1)).map (fun l=>x++zbA l),zcm zs (mkS (zbq f cols y))=true from fun y' hy'=>by
       rw [List.take_add_one,Hl.out,List.map_append] at hy'
       rcases List.mem_append.1 hy' with h1|h1
       ·exact hdk.out y' h1
       ·simp at h1
        rw [h1,hyl.out,hm9.out]
        exact Hm.out)
      clear hm
      go_upto_region 8 with fail
      go_upto_region 9 with ((go_at_call 160;refine (zbj hl6 _).mono ?_;rintro e w7 ⟨rfl,rfl⟩))
      go_wp2_with (first
       |(go_at_call 159;refine hmk.out.mono ?_;rintro e w5 ⟨S5,rfl,hk5⟩;obtain⟨hm5,hs5⟩:=zeE.kp hst.out.1 hst.out.2 hk5)
       |(at_lookup;refine zco (key:=m9) _ keyS rfl _ _ rfl rfl hm5 rfl hdm.out ?_;rw [hso.out];intro cc' hcc;clear hcc))
      have hk35:=za (hk3.out.trans hk5)
      have hrl5:=za (hrl.out.kp hk5)
      have hst5:=za (show zeE w5 mb n (rnM zs)∧¬ S5 mb from ⟨hm5,hs5⟩)
      go_roundw
      case rel=>exact⟨k+1,S5,by go_num,by omega,za (by have:=hk35.out;rwa [show B+240+120*i+20*k+20=B+240+120*i+20*(k+1) by omega] at this),hst5,hrl5,hdk2⟩
      case measure=>simp [intOf];omega
    ·have hge:¬ (k:Int)<(ls.length:Int):=by omega
     have hdone2:=za (show ∀ y∈(rows.take (i+1)).flatMap (fun r=>ls.map fun l=>r++zbA l),zcm zs (mkS (zbq f cols y))=true from fun y hy=>by
      rw [List.take_add_one,Hx.out,List.flatMap_append] at hy
      rcases List.mem_append.1 hy with h1|h1
      ·exact hdone.out y h1
      ·refine hdk.out y ?_
       rw [List.take_of_length_le (by omega)]
       simpa using h1)
     have hk4:=za (hk3.out.more HO.out.ok (show B+240+120*i+20*k≤B+240+120*(i+1) by omega))
     go_wp2_with fail
     go_roundw
     case rel=>exact⟨i+1,S3,by go_num,by omega,hk4,hst,hdone2⟩
     case measure=>simp [intOf];omega
  ·have hge:¬ (i:Int)<(nr:Int):=by omega
   have hno:=za (show op=none by
    rw [hop.out,List.find?_eq_none]
    intro y hy
    rw [hdone.out y (by rw [List.take_of_length_le (by have:=hlr.out.1;omega)];exact hy)]
    decide)
   have hres:=za (show RetO J (.tuple #[.string ((zav L f rows cols).getD ⟨#[]⟩),.bool (zav L f rows cols).isSome]) (B+1680) S W (.returned (.tuple #[.string ⟨#[]⟩,.bool false])) wr from ⟨S1,by rw [hope.out,hno.out];rfl,(hkp.out.more HO.out.ok (by omega)).back hx1⟩)
   go_wp2_with fail
   go_ret2
   exact hres.out
end
theorem zbh {lo hi:Nat} {A:Option Addr} {n c:Nat} {l:List ByteArray} {w:World}(h:Reads w lo hi 1 A n (zL l))(hn:n≤1048576) :
  Calls Tryz.prog 231 #[.slice A n c] w fun e w'=>∃ v',e=.returned v'∧w'.ownsRow w.heap.size 9 1 v' n (zL l)∧Ext w w':=by
 cases A with
 |none =>
  obtain rfl:n=0:=by
   rcases Nat.eq_zero_or_pos n with h0|h0
   ·exact h0
   ·obtain⟨_,h1,_⟩:=h.2.2 h0
    cases h1
  have hl:=h.length
  obtain rfl:l=[]:=List.eq_nil_of_length_eq_zero (by rw [zaD] at hl;omega)
  clear h
  have hq:=fun (w:World) (a:Option Addr) (n c n' c':Nat)=>Lib.run_eql_slice_nil (P:=Tryz.prog) w 99 _ a n c n' c' Tryz.underlying99
  go_enter Tryz.func231,Tryz.ntmps231
  go_wp2
  go_ret
  exact⟨_,rfl,World.ownsRow_nil _ _ _ _,Ext.refl _⟩
 |some ad =>
  have H:=za (h.ext ((Ext.refl w).alloc (.cells #[] 9)))
  clear h
  have hq:=fun (w:World) (a:Option Addr) (n c n' c':Nat)=>Lib.run_eql_slice_nil (P:=Tryz.prog) w 99 _ a n c n' c' Tryz.underlying99
  go_enter Tryz.func231,Tryz.ntmps231
  go_wp2_with (at_builtin;refine zcE _ rfl _ _ 99 rfl w.heap.size 9 _ 1 16 Tryz.underlying99 zo rfl (by decide) _ 0 [] rfl (World.ownsRow_made w #[] 0 (Nat.le_refl _) (Nat.zero_le _) rfl) _ _ (some ad) n c (zL l) rfl H.out (zr l) (by unfold maxLen;omega) (by omega) (by simp) ?_;intro v' w1 ziJ hg hat)
  have hx:=zeS hg
  rw [Nat.zero_add,List.nil_append] at ziJ
  go_ret
  exact⟨_,rfl,ziJ,hx⟩
theorem clone_edge {lo hi:Nat} {A:Option Addr} {n c:Nat} {l:List Edg} {w:World}(h:Reads w lo hi 3 A n (zy l))(hn:n≤1048576) :
  Calls Tryz.prog 238 #[.slice A n c] w fun e w'=>∃ v',e=.returned v'∧w'.ownsRow w.heap.size 152 3 v' n (zy l)∧Ext w w':=by
 cases A with
 |none =>
  obtain rfl:n=0:=by
   rcases Nat.eq_zero_or_pos n with h0|h0
   ·exact h0
   ·obtain⟨_,h1,_⟩:=h.2.2 h0
    cases h1
  have hl:=h.length
  obtain rfl:l=[]:=List.eq_nil_of_length_eq_zero (by rw [zam] at hl;omega)
  clear h
  have hq:=fun (w:World) (a:Option Addr) (n c n' c':Nat)=>Lib.run_eql_slice_nil (P:=Tryz.prog) w 36 _ a n c n' c' Tryz.underlying36
  go_enter Tryz.func238,Tryz.ntmps238
  go_wp2
  go_ret
  exact⟨_,rfl,World.ownsRow_nil _ _ _ _,Ext.refl _⟩
 |some ad =>
  have H:=za (h.ext ((Ext.refl w).alloc (.cells #[] 152)))
  clear h
  have hq:=fun (w:World) (a:Option Addr) (n c n' c':Nat)=>Lib.run_eql_slice_nil (P:=Tryz.prog) w 36 _ a n c n' c' Tryz.underlying36
  go_enter Tryz.func238,Tryz.ntmps238
  go_wp2_with (at_builtin;refine zcE _ rfl _ _ 36 rfl w.heap.size 152 _ 3 24 Tryz.underlying36 zgt rfl (by decide) _ 0 [] rfl (World.ownsRow_made w #[] 0 (Nat.le_refl _) (Nat.zero_le _) rfl) _ _ (some ad) n c (zy l) rfl H.out (zhZ l) (by unfold maxLen;omega) (by omega) (by simp) ?_;intro v' w1 ziJ hg hat)
  have hx:=zeS hg
  rw [Nat.zero_add,List.nil_append] at ziJ
  go_ret
  exact⟨_,rfl,ziJ,hx⟩
theorem strs_at {w:World} {lo hi n k:Nat} {A:Option Addr} {l:List ByteArray} {x:ByteArray}(h:Reads w lo hi 1 A n (zL l))(hk:l[k]?=some x):∃ ad,A=some ad∧w.cell? (ad.add k)=some (.string x):=by
 have hl:=h.length
 rw [zaD] at hl
 obtain⟨ad,y,e,_,_,hy,hc⟩:=h.str (k:=k) (by have:=(List.getElem?_eq_some_iff.1 hk).1;omega)
 obtain rfl:=Option.some.inj (hk.symm.trans hy.out)
 exact⟨ad,e,hc⟩
theorem index_str {lo hi n c:Nat} {A:Option Addr} {l:List ByteArray} {x:ByteArray} {w:World}(h:Reads w lo hi 1 A n (zL l)) :
  Calls Tryz.prog 273 #[.slice A n c,.string x] w fun e w'=>∃ r:Int,e=.returned (.int .i64 r)∧(decide (0≤r)=zcm l x)∧w=w':=by
 have hl:=h.length
 have hn:=h.len
 rw [zaD] at hl
 have H:=za h
 have hLen:=za (show l.length=n by omega)
 clear h hl
 go_enter Tryz.func273,Tryz.ntmps273
 go_wp2_with fail
 go_loopw [5,8] (fun _ i wr=>∃ k:Nat,i=.int .i64 k∧k≤n∧Hid (∀ j,j<k→l[j]?≠some x)∧wr=w) (fun _ i _=>n - (intOf i).toNat)
 case atStart=>exact⟨0,rfl,Nat.zero_le _,za (fun j h=>by omega),rfl⟩
 case round =>
  obtain⟨k,rfl,hk,hno,rfl⟩:=hrel
  by_cases hlt:k<n
  ·have hlt':(k:Int)<(n:Int):=by omega
   obtain⟨y,hy⟩:∃ y,l[k]?=some y:=⟨_,List.getElem?_eq_getElem (by have:=hLen.out;omega)⟩
   have Hy:=za hy
   obtain⟨ad,rfl,hc⟩:=strs_at H.out hy
   clear hy
   by_cases hxy:x=y
   ·subst hxy
    have hres:=za (show zcm l x=true from zai.2 (List.mem_of_getElem? Hy.out))
    go_wp2_with fail
    go_ret
    exact⟨k,rfl,by rw [hres.out];simp,rfl⟩
   ·have hne:=str_ne hxy
    have hno2:=za (show ∀ j,j<k+1→l[j]?≠some x from fun j hj e=>by
     rcases Nat.lt_or_eq_of_le (Nat.le_of_lt_succ hj) with h1|rfl
     ·exact hno.out j h1 e
     ·have h2:=Hy.out
      rw [e] at h2
      exact hxy (Option.some.inj h2))
    clear hxy hno
    go_wp2_with fail
    go_roundw
    case rel=>exact⟨k+1,by go_num,by omega,hno2,trivial⟩
    case measure=>simp [intOf];omega
  ·have hge:(n:Int)≤(k:Int):=by omega
   have hres:=za (show zcm l x=false from zbW.2 (fun hm=>by
    obtain⟨j,hj⟩:=List.getElem?_of_mem hm
    exact hno.out j (by have:=(List.getElem?_eq_some_iff.1 hj).1;have:=hLen.out;omega) hj))
   go_wp2_with fail
   go_ret
   exact⟨-1,rfl,by rw [hres.out];simp,rfl⟩
theorem contains_str {lo hi n c:Nat} {A:Option Addr} {l:List ByteArray} {x:ByteArray} {w:World}(h:Reads w lo hi 1 A n (zL l)) :
  Calls Tryz.prog 233 #[.slice A n c,.string x] w fun e w'=>e=.returned (.bool (zcm l x))∧w=w':=by
 go_enter Tryz.func233,Tryz.ntmps233
 go_wp2_with ((go_at_call 273;refine (index_str h).mono ?_;rintro e w1 ⟨r,rfl,hr,rfl⟩))
 go_ret
 exact⟨rfl,rfl⟩
theorem zcq {L:Nat} {f:ByteArray→Bool} {rows cols:List ByteArray}(h:zbz L f rows cols)(ho:zav L f rows cols=none)(hL:L<64):zk (zdn L f rows cols)=true:=by
 unfold zk zdn
 simp only [Bool.and_eq_true,decide_eq_true_eq,List.length_map,List.all_eq_true]
 refine⟨by omega,⟨h.r1,h.r12⟩,trivial,fun row hrow=>?_⟩
 obtain⟨r,hr,rfl⟩:=List.mem_map.1 hrow
 unfold rowB zcW
 simp only [Bool.and_eq_true,decide_eq_true_eq,List.length_map,List.all_eq_true]
 refine⟨by rw [Int.toNat_natCast],fun q hq=>?_⟩
 obtain⟨l,hl,rfl⟩:=List.mem_map.1 hq
 have:=zig (zdH ho hr hl)
 rw [zal,List.length_map] at this
 exact⟨by omega,by exact_mod_cast this⟩
section
variable {w W:World} {lo hi m d m' d':Nat} {B B':Option Addr} {p:Aut} {t:ByteArray}
theorem zgJ (h:zC w lo hi B m B' m' p)(hv:zk p=true)(ht:inB t p.al.toNat=true) :
  Calls Tryz.prog 271 #[.agg #[.int .i64 p.al,.slice B m d,.slice B' m' d'],.string t] w fun e w'=>e=.returned (.int .i64 (zaL p 0 (wl t):Nat))∧Ext w w':=by
 obtain⟨al0,al1⟩:=(zl hv).1
 obtain⟨al,hal⟩:∃ al:Nat,Hid (p.al=al):=⟨p.al.toNat,by unfold Hid;omega⟩
 have hal6:al≤63:=by have:=hal.out;omega
 have hto:=za (show p.al.toNat=al by have:=hal.out;omega)
 have hw:=zaP ht
 have hsz:=zbn hw
 have HV:=za (fun W (hW:Ext w W)=>zO _ _ _ _ d _ _ d' _ _ (h.ext hW))
 rw [hv] at HV
 have HR:=za (fun W (hW:Ext w W)=>spec_l3Run (d:=d) (d':=d') (h.ext hW) hv hw)
 rw [hto.out] at ht
 have Hin:=za ht
 rw [hal.out] at HV HR ⊢
 have hw1:Ext w (w.alloc (.cells #[.int .i64 al,.slice B m d,.slice B' m' d'] 31)):=(Ext.refl _).alloc _
 have b1:=Blk.new w 31 #[.int .i64 al,.slice B m d,.slice B' m' d']
 clear h hv ht hw al0 al1
 go_enter Tryz.func271,Tryz.ntmps271
 go_upto_region 1 with fail
 generalize w.alloc (.cells #[.int .i64 al,.slice B m d,.slice B' m' d'] 31)=w1 at *
 have CB:=b1.cells
 have hww:=Ext.refl w1
 go_wp2_with (first
  |(go_at_call 200;refine (HV.out _ hw1).mono ?_;rintro e w2 ⟨rfl,hx2⟩)
  |(go_at_call 143;refine (zaG (by omega) hal6).mono ?_;rw [Hin.out];rintro e w3 ⟨rfl,rfl⟩)
  |(go_at_call 263;refine (HR.out _ (hw1.trans hx2)).mono ?_;rintro e w4 ⟨rfl,hx4⟩))
 go_ret
 exact⟨rfl,hw1.trans (hx2.trans hx4)⟩
theorem zfR (h:zC w lo hi B m B' m' p)(hv:zk p=true)(ht:inB t p.al.toNat=true) :
  Calls Tryz.prog 224 #[.agg #[.int .i64 p.al,.slice B m d,.slice B' m' d'],.string t] w fun e w'=>e=.returned (.bool (zcg p (zaL p 0 (wl t))))∧Ext w w':=by
 have HA:=za (fun W (hW:Ext w W)=>zgJ (d:=d) (d':=d') (h.ext hW) hv ht)
 have HB:=za (fun W (hW:Ext w W) q hq=>zeK (q:=q) (h.ext hW) hq)
 have hqn:zaL p 0 (wl t)<p.next.length:=zdI hv (wl_lt (zaP ht)) (by have:=(zl hv).2.1;omega)
 have hm':m'=p.next.length:=by rw [h.n2,(zl hv).2.2.1]
 rw [← hm'] at hqn
 generalize zaL p 0 (wl t)=q at *
 have hq':(q:Int)<(m':Int):=by omega
 have hw1:Ext w (w.alloc (.cells #[.int .i64 p.al,.slice B m d,.slice B' m' d'] 31)):=(Ext.refl _).alloc _
 have b1:=Blk.new w 31 #[.int .i64 p.al,.slice B m d,.slice B' m' d']
 clear h hv ht hm'
 go_enter Tryz.func224,Tryz.ntmps224
 go_upto_region 1 with fail
 generalize w.alloc (.cells #[.int .i64 p.al,.slice B m d,.slice B' m' d'] 31)=w1 at *
 have CB:=b1.cells
 have hww:=Ext.refl w1
 go_upto_region 2 with (first
  |(go_at_call 271;refine (HA.out _ hw1).mono ?_;rintro e w2 ⟨rfl,hx2⟩))
 obtain⟨ad,rfl,cA⟩:=HB.out w2 (hw1.trans hx2) q hqn
 have hq0:(0:Int)≤(q:Int):=by omega
 go_wp2_with fail
 go_ret
 exact⟨zj (by simp),hw1.trans hx2⟩
end
noncomputable def stT (L:Nat) (f:ByteArray→Bool) (rows cols:List ByteArray) (x:ByteArray) (k:Nat):Nat:=zaL (zdn L f rows cols) 0 ((wl x).take k)
noncomputable def zhb (L:Nat) (f:ByteArray→Bool) (rows cols:List ByteArray) (x:ByteArray) (k:Nat):Bool:=f (rows.getD (stT L f rows cols x k) ⟨#[]⟩++x.extract k x.size)
noncomputable def zcR (L:Nat) (f:ByteArray→Bool) (rows cols:List ByteArray) (x:ByteArray):Option ByteArray:=
 if (inB x L&&decide (x.size≤4000))=true∧zcg (zdn L f rows cols) (zaL (zdn L f rows cols) 0 (wl x))≠f x then
  ((List.range x.size).find? fun k=>zhb L f rows cols x k != zhb L f rows cols x (k+1)).map fun k=>x.extract (k+1) x.size
 else none
theorem zdT {P:Nat→Bool} {n k:Nat}(hk:k<n)(hp:∀ j,j<k→P j=false)(hx:P k=true):(List.range n).find? P=some k:=by
 rw [List.find?_range_eq_some]
 exact⟨hx,List.mem_range.2 hk,fun j hj=>by rw [hp j hj];rfl⟩
section
variable {w W:World} {n c m d m' d' L:Nat} {A B B':Option Addr} {s:Sys} {p:Aut} {nr nc cr cc:Nat} {R C:Option Addr} {rows cols:List ByteArray}
theorem zhl {x:ByteArray}(h:Tch w A n B m B' m' s p L)(hT:TabAt w R nr C nc rows cols)(hI:zbz L (zt s p L) rows cols)(hcr:nr≤cr)(hcc:nc≤cc)(hcl:zav L (zt s p L) rows cols=none)(hx:x.size≤9223372036854775807) :
  Calls Tryz.prog 148 #[.agg #[.bool false,.int .i64 0,.slice none 0 0,.slice none 0 0,.int .i64 s.al,.int .i64 s.st,.slice A n c,.int .i64 p.al,.slice B m d,.slice B' m' d',.int .i64 L],.agg #[.slice R nr cr,.slice C nc cc],.string x] w fun e w'=>e=.returned (.tuple #[.string ((zcR L (zt s p L) rows cols x).getD ⟨#[]⟩),.bool (zcR L (zt s p L) rows cols x).isSome])∧Ext w w':=by
 obtain⟨e1,e2⟩:=hT.nr
 have hav:=zcq hI hcl h.lt
 have hr12:=hI.r12
 rw [e1] at hr12
 have HTA:=za (fun W (hW:Ext w W)=>zcA (c:=c) (d:=d) (d':=d') (h.ext hW) (hT.ext hW) hI hcr hcc hcl)
 have HWd:=za (fun W (hW:Ext w W)=>zfL (c:=c) (d:=d) (d':=d') (h.ext hW) hx)
 have HAsk:=za (fun W (hW:Ext w W) (y:ByteArray) hy=>zdM (c:=c) (d:=d) (d':=d') (t:=y) (h.ext hW) hy)
 obtain⟨lo,hi,lo2,hi2,h1,h2⟩:=hT
 have H1:=za (fun W (hW:Ext w W)=>h1.ext hW)
 have Hin:=za (fun x hx=>hI.rin (x:=x) hx)
 have He:=za e1
 have hanl:=za (show (zdn L (zt s p L) rows cols).next.length=nr by unfold zdn;rw [List.length_map];exact e1)
 have haal:=za (show (zdn L (zt s p L) rows cols).al=(L:Int) from rfl)
 obtain⟨op,hop⟩:∃ op,Hid (zcR L (zt s p L) rows cols x=op):=⟨_,rfl⟩
 rw [hop.out]
 have Hst:=za (fun k=>show stT L (zt s p L) rows cols x k=zaL (zdn L (zt s p L) rows cols) 0 ((wl x).take k) from rfl)
 have Hsp:=za (show zcR L (zt s p L) rows cols x=if (inB x L&&decide (x.size≤4000))=true∧zcg (zdn L (zt s p L) rows cols) (zaL (zdn L (zt s p L) rows cols) 0 (wl x))≠zt s p L x then
  ((List.range x.size).find? fun k=>zhb L (zt s p L) rows cols x k != zhb L (zt s p L) rows cols x (k+1)).map fun k=>x.extract (k+1) x.size else none from rfl)
 rw [hop.out] at Hsp
 have Hak:=za (fun k=>show zhb L (zt s p L) rows cols x k=zt s p L (rows.getD (stT L (zt s p L) rows cols x k) ⟨#[]⟩++x.extract k x.size) from rfl)
 generalize zhb L (zt s p L) rows cols x=ask at *
 generalize stT L (zt s p L) rows cols x=st at *
 generalize zdn L (zt s p L) rows cols=aut at *
 have Hav:=za hav
 have hx0:Ext w ((w.alloc (.cells #[.bool false,.int .i64 0,.slice none 0 0,.slice none 0 0,.int .i64 s.al,.int .i64 s.st,.slice A n c,.int .i64 p.al,.slice B m d,.slice B' m' d',.int .i64 L] 98)).alloc (.cells #[.slice R nr cr,.slice C nc cc] 101)):=((Ext.refl _).alloc _).alloc _
 obtain⟨b1,b2⟩:=zE (Ext.refl ((w.alloc (.cells #[.bool false,.int .i64 0,.slice none 0 0,.slice none 0 0,.int .i64 s.al,.int .i64 s.st,.slice A n c,.int .i64 p.al,.slice B m d,.slice B' m' d',.int .i64 L] 98)).alloc (.cells #[.slice R nr cr,.slice C nc cc] 101)))
 clear h h1 h2 hI e1 e2 hav hcl
 go_enter Tryz.func148,Tryz.ntmps148
 go_upto_region 1 with fail
 generalize (w.alloc (.cells #[.bool false,.int .i64 0,.slice none 0 0,.slice none 0 0,.int .i64 s.al,.int .i64 s.st,.slice A n c,.int .i64 p.al,.slice B m d,.slice B' m' d',.int .i64 L] 98)).alloc (.cells #[.slice R nr cr,.slice C nc cc] 101)=w0 at *
 have CB:=b1.cells
 have CT:=b2.cells
 have hww:=Ext.refl w0
 go_upto_region 2 with (first
  |(go_at_call 71;refine (HTA.out _ hx0).mono ?_;rintro e w1 ⟨X,k1,d1,X',k1',d1',rfl,ziJ,hx01⟩))
 rw [haal.out]
 have hat:=(ziJ.ext ((Ext.refl w1).alloc (.cells #[.int .i64 (L:Nat),.slice X k1 d1,.slice X' k1' d1'] 31))).reads
 have b3:=Blk.new w1 31 #[.int .i64 (L:Nat),.slice X k1 d1,.slice X' k1' d1']
 have hx12:=(Ext.refl w1).alloc (.cells #[.int .i64 (L:Nat),.slice X k1 d1,.slice X' k1' d1'] 31)
 generalize w1.alloc (.cells #[.int .i64 (L:Nat),.slice X k1 d1,.slice X' k1' d1'] 31)=w2 at *
 have hx02:=hx01.trans hx12
 have CB2:∀ W,Ext w2 W→∀ q,W.cell? ⟨w.heap.size,q,none⟩=#[Value.bool false,.int .i64 0,.slice none 0 0,.slice none 0 0,.int .i64 s.al,.int .i64 s.st,.slice A n c,.int .i64 p.al,.slice B m d,.slice B' m' d',.int .i64 L][q]?:=fun W hW=>CB W (hx02.trans hW)
 have CT2:∀ W,Ext w2 W→∀ q,W.cell? ⟨w.heap.size+1,q,none⟩=#[Value.slice R nr cr,.slice C nc cc][q]?:=fun W hW=>CT W (hx02.trans hW)
 have CA:=b3.cells
 have HAT:=za (fun W (hW:Ext w2 W)=>hat.ext hW)
 have hww2:=Ext.refl w2
 clear ziJ hat hww
 cases hok:(inB x L&&decide (x.size≤4000))
 ·have Hok:=za hok
  have hno:=za (show op=none by rw [Hsp.out,hok,if_neg (by rintro ⟨h,-⟩;cases h)])
  clear hok
  refine uR (fun X=>Ext w2 X) [] (zu.of [0,1,2,3,4,5,6,7,8,9,10,12,13,11,14,15,16]) ?_
  refine uQ ?_
  refine ze fun K hK=>?_;go_simp
  refine (HWd.out _ (hx0.trans (hx02.trans hww2.drew))).mono ?_
  rw [Hok.out]
  rintro e w3 ⟨rfl,hx3⟩
  have hx23:Ext w2 w3:=hww2.drew.trans hx3
  refine hK.out _ _ hx23 ?_
  refine pT ?_
  refine uQ ?_
  refine zf ?_
  go_wp2_with fail
  go_ret2
  exact⟨by rw [hno.out];rfl,hx0.trans (hx02.trans hx23)⟩
 ·have Hok:=za hok
  have hok2:=hok
  simp only [Bool.and_eq_true,decide_eq_true_eq] at hok2
  obtain⟨hinx,hxs⟩:=hok2
  have HAcc:=za (fun W (hW:Ext w2 W)=>zfR (d:=d1) (d':=d1') (t:=x) (HAT.out W hW) Hav.out (by rw [haal.out,Int.toNat_natCast];exact hinx))
  rw [haal.out] at HAcc
  have HAx:=za (fun W (hW:Ext w2 W)=>HAsk.out W (hx0.trans (hx02.trans hW)) x hx)
  obtain⟨ac,hac⟩:∃ ac,Hid (zcg aut (zaL aut 0 (wl x))=ac):=⟨_,rfl⟩
  obtain⟨fx,hfx⟩:∃ fx,Hid (zt s p L x=fx):=⟨_,rfl⟩
  rw [hac.out] at HAcc
  rw [hfx.out] at HAx
  rw [hac.out,hfx.out,hok] at Hsp
  clear hok
  by_cases heq:ac=fx
  ·subst heq
   have hno:=za (show op=none by rw [Hsp.out,if_neg (by rintro ⟨-,h⟩;exact h rfl)])
   refine uR (fun X=>Ext w2 X) [] (zu.of [0,1,2,3,4,5,6,7,8,9,10,12,13,11,14,15,16]) ?_
   refine uQ ?_
   refine ze fun K hK=>?_;go_simp
   refine (HWd.out _ (hx0.trans (hx02.trans hww2.drew))).mono ?_
   rw [Hok.out]
   rintro e w3 ⟨rfl,hx3⟩
   have hx23:Ext w2 w3:=hww2.drew.trans hx3
   refine hK.out _ _ hx23 ?_
   refine pT ?_
   refine uQ ?_
   refine ze fun K hK=>?_;go_simp
   refine (HAcc.out _ hx23).mono ?_
   rintro e w4 ⟨rfl,hx4⟩
   have hx24:=hx23.trans hx4
   refine hK.out _ _ hx24 ?_
   refine pT ?_
   refine uQ ?_
   refine ze fun K hK=>?_;go_simp
   refine (HAx.out _ hx24).mono ?_
   rintro e w5 ⟨rfl,hx5⟩
   have hx25:=hx24.trans hx5
   refine hK.out _ _ hx25 ?_
   refine pT ?_
   refine uQ ?_
   refine zf ?_
   go_wp2_with fail
   go_ret2
   exact⟨by rw [hno.out];rfl,hx0.trans (hx02.trans hx25)⟩
  ·have hne:(ac==fx)=false:=by cases ac<;>cases fx<;>simp_all
   have hsp:=za (show op=((List.range x.size).find? fun k=>ask k != ask (k+1)).map fun k=>x.extract (k+1) x.size by rw [Hsp.out,if_pos ⟨rfl,heq⟩])
   clear heq
   refine uR (fun X=>Ext w2 X) [] (zu.of [0,1,2,3,4,5,6,7,8,9,10,12,13,11,14,15,16]) ?_
   refine uQ ?_
   refine ze fun K hK=>?_;go_simp
   refine (HWd.out _ (hx0.trans (hx02.trans hww2.drew))).mono ?_
   rw [Hok.out]
   rintro e w3 ⟨rfl,hx3⟩
   have hx23:Ext w2 w3:=hww2.drew.trans hx3
   refine hK.out _ _ hx23 ?_
   refine pT ?_
   refine uQ ?_
   refine ze fun K hK=>?_;go_simp
   refine (HAcc.out _ hx23).mono ?_
   rintro e w4 ⟨rfl,hx4⟩
   have hx24:=hx23.trans hx4
   refine hK.out _ _ hx24 ?_
   refine pT ?_
   refine uQ ?_
   refine ze fun K hK=>?_;go_simp
   refine (HAx.out _ hx24).mono ?_
   rintro e w5 ⟨rfl,hx5⟩
   have hx25:=hx24.trans hx5
   refine hK.out _ _ hx25 ?_
   refine pT ?_
   refine uQ ?_
   refine zf ?_
   have hw0:=zaP hinx
   have Hb:=za (fun k hk=>zaB hw0 (k:=k) hk)
   have Hlt:=za (wl_lt hw0)
   have hnr1:1≤nr:=by have:=(zl Hav.out).2.1;rw [hanl.out] at this;exact this.1
   clear hinx hw0
   go_wp2_with fail
   go_loopw [10,11] (fun qv iv wr=>∃ (k q:Nat),iv=.int .i64 k∧k≤x.size∧qv=.int .i64 q∧q<nr∧Hid (q=st k)∧Hid (∀ j,j<k→(ask j != ask (j+1))=false)∧Ext w2 wr) (fun _ iv _=>x.size - (intOf iv).toNat)
   case atStart=>exact⟨0,0,rfl,Nat.zero_le _,rfl,hnr1,za (by rw [Hst.out];rfl),za (fun j h=>by omega),hx25⟩
   case round =>
    clear hx25 hx5 hx24 hx4 hx23 hx3
    obtain⟨k,q,rfl,hk,rfl,hq,hqs,hdone,hxr⟩:=hrel
    by_cases hlt:k<x.size
    ·have hlt':(k:Int)<(x.size:Int):=by omega
     obtain⟨l,hl⟩:∃ l:Nat,Hid ((x[k].toNat:Int) - 97=l):=⟨x[k].toNat - 97,by unfold Hid;have:=Hb.out k hlt;omega⟩
     have hl6:l<6:=by have:=hl.out;have:=Hb.out k hlt;omega
     have hq2s:=za (show aGo aut q l=st (k+1) by
      rw [Hst.out,List.take_add_one,zdA hlt,Option.toList_some,zbk,← Hst.out,← hqs.out]
      congr 1
      have:=hl.out;have:=Hb.out k hlt;omega)
     have hq2:aGo aut q l<nr:=by rw [← hanl.out];exact zcV Hav.out (by rw [hanl.out];exact hq) hl6
     have HGo:=za (fun W (hW:Ext w2 W)=>zdh (d:=d1) (d':=d1') (HAT.out W hW) Hav.out (by rw [hanl.out];exact hq) hl6)
     rw [haal.out] at HGo
     generalize aGo aut q l=q2 at *
     have CAr:∀ W,Ext wr W→∀ j,W.cell? ⟨w1.heap.size,j,none⟩=#[Value.int .i64 (L:Nat),.slice X k1 d1,.slice X' k1' d1'][j]?:=fun W hW=>CA W (hxr.trans hW)
     have CBr:∀ W,Ext wr W→∀ j,W.cell? ⟨w.heap.size,j,none⟩=#[Value.bool false,.int .i64 0,.slice none 0 0,.slice none 0 0,.int .i64 s.al,.int .i64 s.st,.slice A n c,.int .i64 p.al,.slice B m d,.slice B' m' d',.int .i64 L][j]?:=fun W hW=>CB2 W (hxr.trans hW)
     have CTr:∀ W,Ext wr W→∀ j,W.cell? ⟨w.heap.size+1,j,none⟩=#[Value.slice R nr cr,.slice C nc cc][j]?:=fun W hW=>CT2 W (hxr.trans hW)
     have hww:=Ext.refl wr
     go_wp2_with fail
     go_region_held3 (fun W=>Ext wr W) (first|assumption|(refine Ext.drew ?_;assumption)|(refine Ext.trans ?_ (by assumption);assumption)|(refine Ext.trans ?_ (by assumption);refine Ext.drew ?_;assumption)) (first
      |(go_at_call 141;refine (zbL x k hlt _).mono ?_;rw [hl.out];rintro e w6 ⟨rfl,rfl⟩)
      |(go_at_call 222;refine (HGo.out _ (hxr.trans ?_)).mono ?_;(first|assumption|(refine Ext.drew ?_;assumption));rintro e w7 ⟨rfl,hx7⟩))
     have hx67:Ext wr w7:=by assumption
     obtain⟨ad,r1,rfl,_,_,hr1,cr1⟩:=(H1.out w7 (hx0.trans (hx02.trans (hxr.trans hx67)))).str hq
     obtain⟨ad2,r2,e2,_,_,hr2,cr2⟩:=(H1.out w7 (hx0.trans (hx02.trans (hxr.trans hx67)))).str hq2
     obtain rfl:=Option.some.inj e2
     have hrs1:=(Hin.out r1 (List.mem_of_getElem? hr1.out)).2
     have hrs2:=(Hin.out r2 (List.mem_of_getElem? hr2.out)).2
     have CR1:∀ W,Ext w7 W→W.cell? (ad.add q)=some (.string r1):=fun W hW=>hW.cell_some cr1
     have CR2:∀ W,Ext w7 W→W.cell? (ad.add q2)=some (.string r2):=fun W hW=>hW.cell_some cr2
     have CB7:∀ W,Ext w7 W→∀ j,W.cell? ⟨w.heap.size,j,none⟩=#[Value.bool false,.int .i64 0,.slice none 0 0,.slice none 0 0,.int .i64 s.al,.int .i64 s.st,.slice A n c,.int .i64 p.al,.slice B m d,.slice B' m' d',.int .i64 L][j]?:=fun W hW=>CBr W (hx67.trans hW)
     have CT7:∀ W,Ext w7 W→∀ j,W.cell? ⟨w.heap.size+1,j,none⟩=#[Value.slice (some ad) nr cr,.slice C nc cc][j]?:=fun W hW=>CTr W (hx67.trans hW)
     obtain⟨y1,hy1⟩:∃ y1,x.extract k x.size=y1:=⟨_,rfl⟩
     obtain⟨y2,hy2⟩:∃ y2,x.extract (k+1) x.size=y2:=⟨_,rfl⟩
     have hys1:y1.size≤4000:=by rw [← hy1,ByteArray.size_extract];omega
     have hys2:y2.size≤4000:=by rw [← hy2,ByteArray.size_extract];omega
     have hsz1:¬ 9223372036854775807<r1.size+y1.size:=by omega
     have hsz2:¬ 9223372036854775807<r2.size+y2.size:=by omega
     obtain⟨z1,hz1⟩:∃ z1,r1++y1=z1:=⟨_,rfl⟩
     obtain⟨z2,hz2⟩:∃ z2,r2++y2=z2:=⟨_,rfl⟩
     have HA1:=za (fun W (hW:Ext w7 W)=>HAsk.out W (hx0.trans (hx02.trans (hxr.trans (hx67.trans hW)))) z1 (by rw [← hz1,ByteArray.size_append];omega))
     have HA2:=za (fun W (hW:Ext w7 W)=>HAsk.out W (hx0.trans (hx02.trans (hxr.trans (hx67.trans hW)))) z2 (by rw [← hz2,ByteArray.size_append];omega))
     have ha1:=za (show ask k=zt s p L z1 by rw [Hak.out,← hqs.out,List.getD_eq_getElem?_getD,hr1.out,Option.getD_some,hy1,hz1])
     have ha2:=za (show ask (k+1)=zt s p L z2 by rw [Hak.out,← hq2s.out,List.getD_eq_getElem?_getD,hr2.out,Option.getD_some,hy2,hz2])
     obtain⟨a1,hb1⟩:∃ a1,Hid (zt s p L z1=a1):=⟨_,rfl⟩
     obtain⟨a2,hb2⟩:∃ a2,Hid (zt s p L z2=a2):=⟨_,rfl⟩
     rw [hb1.out] at HA1 ha1
     rw [hb2.out] at HA2 ha2
     have Hy2:=za hy2
     have hww7:=Ext.refl w7
     have hwr:=IntWalk.i64_in ((k:Int)+1) (by omega)
     have hq':(q:Int)<(nr:Int):=by omega
     have hq2':(q2:Int)<(nr:Int):=by omega
     have hk1:(k:Int)+1≤(x.size:Int):=by omega
     have hkle:(k:Int)≤(x.size:Int):=by omega
     have hk01:(0:Int)≤(k:Int)+1:=by omega
     clear cr1 cr2 hr1 hr2 e2 hb1 hb2
     go_wp2_with fail
     refine uR (fun X=>Ext w7 X) [] (zu.of [0,1,2,3,4,5,6,7,8,9,11,12,13,14,15,16,17,18,19,20,21,10,22,23]) ?_
     refine uQ ?_
     refine ze fun K hK=>?_;go_simp
     refine (HA1.out _ hww7.drew).mono ?_
     rintro e w8 ⟨rfl,hx8⟩
     have hx78:Ext w7 w8:=hww7.drew.trans hx8
     refine hK.out _ _ hx78 ?_
     refine pT ?_
     refine uQ ?_
     refine ze fun K hK=>?_;go_simp
     refine (HA2.out _ hx78).mono ?_
     rintro e w9 ⟨rfl,hx9⟩
     have hx79:=hx78.trans hx9
     refine hK.out _ _ hx79 ?_
     refine pT ?_
     refine uQ ?_
     refine zf ?_
     have hxr9:=hxr.trans (hx67.trans hx79)
     clear hz1 hz2 hy1 hwr
     by_cases hab:a1=a2
     ·subst hab
      have hna:=za (show (ask k != ask (k+1))=false by rw [ha1.out,ha2.out];simp)
      cases a1
      all_goals
       go_wp2_with fail
       go_roundw
       case rel=>exact⟨k+1,q2,by go_num,by omega,rfl,hq2,hq2s,za (fun j hj=>by
        rcases Nat.lt_or_eq_of_le (Nat.le_of_lt_succ hj) with h1|rfl
        ·exact hdone.out j h1
        ·exact hna.out),hxr9⟩
       case measure=>simp [intOf];omega
     ·have hsome:=za (show op=some y2 by
       rw [hsp.out,zdT hlt (fun j hj=>hdone.out j hj) (by rw [ha1.out,ha2.out];simpa using hab),Option.map_some,Hy2.out])
      cases a1<;>cases a2
      ·exact absurd rfl hab
      ·clear hab
       go_wp2_with fail
       go_ret2
       exact⟨by rw [hsome.out];rfl,hx0.trans (hx02.trans hxr9)⟩
      ·clear hab
       go_wp2_with fail
       go_ret2
       exact⟨by rw [hsome.out];rfl,hx0.trans (hx02.trans hxr9)⟩
      ·exact absurd rfl hab
    ·have hge:(x.size:Int)≤(k:Int):=by omega
     have hno:=za (show op=none by
      rw [hsp.out,Option.map_eq_none_iff,List.find?_eq_none]
      intro j hj
      rw [List.mem_range] at hj
      rw [hdone.out j (by omega)]
      decide)
     go_wp2_with fail
     go_ret2
     exact⟨by rw [hno.out];rfl,hx0.trans (hx02.trans hxr)⟩
end
end Go.Proofs.YtcfchopfijalpaaGreatDoor
