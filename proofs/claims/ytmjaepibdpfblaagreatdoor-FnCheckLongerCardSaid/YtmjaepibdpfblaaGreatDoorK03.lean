/- spec.l2Texts -/
import Derived.Test.YtmjaepibdpfblaaGreatDoorK02
import Derived.Test.YtmjaepibdpfblaaGreatDoorK01
import Derived.Deep.DeepCutAuto
import Derived.Laws.StructEq
import Derived.Deep.AppendLies
import Derived.Deep.CutBlock
namespace Go.Proofs.YtmjaepibdpfblaaGreatDoor
open Go Go.RowKit
set_option maxHeartbeats 4000000
set_option maxRecDepth 100000
def zif:Value→ByteArray
 |.string s=>s
 |_=>⟨#[]⟩
def RetTexts (L:Nat) (w:World) (e:Ending) (w':World):Prop:=∃ (A:Option Addr) (n c:Nat) (l:List ByteArray),e=.returned (.slice A n c)∧0<n∧w'.ownsRow w.heap.size 9 1 (.slice A n c) n (zW l)∧(∀ x∈l,x.size≤L)∧Ext w w'
theorem zbk (w:World) {us:Array Value} {n:Nat}(hu:zW (us.toList.map zif)=us.toList)(hn:us.size=n)(h:n≤1000):(w.alloc (.cells us 9)).ownsRow w.heap.size 9 1 (.slice (some ⟨w.heap.size,0,none⟩) n n) n (zW (us.toList.map zif)):=by
 rw [hu]
 exact World.ownsRow_lit w us n (Nat.le_refl _) (by unfold maxLen;omega) (by simpa using hn)
theorem spec_l2Texts {w:World}:Calls Tryz.prog 282 #[] w (RetTexts 100 w):=by
 go_enter Tryz.func282,Tryz.ntmps282
 go_wp2
 go_ret
 exact⟨_,_,_,_,rfl,by decide,zbk w rfl rfl (by omega),by decide +kernel,(Ext.refl _).alloc _⟩
theorem reads_ints {w w':World} {us:Array Value} {n:Nat} {e:TypeId} (l:List Int)(hu:us.toList=ints l)(hn:us.size=n)(hx:Ext (w.alloc (.cells us e)) w')(h63:n≤1000):Reads w' w.heap.size (w.heap.size+1) 1 (some ⟨w.heap.size,0,none⟩) n (ints l):=
 ⟨by rw [← hu];simpa using hn,by omega,fun _=>⟨_,rfl,Nat.le_refl _,by simp,fun j u hj=>by
  have:=(zbH hx).cell j
  rw [zT,Nat.zero_add,this]
  rw [← hu] at hj
  simpa using hj⟩⟩
theorem zaL {R M:Nat} {w:World} (l:List Int) (n:Nat) (us:Array Value)(hu:us.toList=ints l)(hn:us.size=n)(h0:0<n)(h63:n≤1000)(h:Rd w R M)(hM:M≤1000000000) :
  Calls Tryz.prog 252 #[.pointer (some ⟨R,0,none⟩),.slice (some ⟨w.heap.size,0,none⟩) n n] (w.alloc (.cells us 3)) (RetNum R M l (w.alloc (.cells us 3))):=
 l19Rd_num (h.ext ((Ext.refl _).alloc _)) hM (reads_ints l hu hn (Ext.refl _) h63) h.lt h0
theorem zge {R M L n c Z:Nat} {A:Option Addr} {s:Sys} {w W:World} {cs:Array Value}(hs:zbq W R A n s)(hg:Good s)(hn:n≤L∧n≤c)(hr:Rd W R M)(hd:Dr R w W)(hB:Blk W Z 38 cs)(hR:R<w.heap.size)(hZ:w.heap.size≤Z) :
  RetG R M L w (.returned (.agg #[.int .i64 s.al,.int .i64 s.st,.slice A n c])) (((W.setCell ⟨Z,0,none⟩ (.int .i64 s.al)).setCell ⟨Z,1,none⟩ (.int .i64 s.st)).setCell ⟨Z,2,none⟩ (.slice A n c)):=by
 have hf:=zdV W Z (.int .i64 s.al) (.int .i64 s.st) (.slice A n c)
 exact⟨s,A,n,c,rfl,hs.far hB (by decide) hf,hg,hn,hr.frm hf (fun k h1 h2=>by omega),((hd.setNew (p:=⟨Z,0,none⟩) hZ _).setNew (p:=⟨Z,1,none⟩) hZ _).setNew (p:=⟨Z,2,none⟩) hZ _⟩
theorem yK03a1 {P:Prop}(h:P:=by
 go_wp2_with fail
 refine (zaL [3,2,4,1,5] 5 #[.int .i64 3,.int .i64 2,.int .i64 4,.int .i64 1,.int .i64 5] rfl rfl (by omega) (by omega) hr6 (by omega)).mono ?_
 rintro e w7 ⟨st,hst,rfl,hr7,hd7⟩
 have hw7:=(hw6.ext ((Ext.refl _).alloc _)).trans hd7
 have bz7:=(bz6.ext ((Ext.refl _).alloc _)).dr hd7 (by omega)
 go_wp2_with fail
 refine (zaL [3,2,4,6] 4 #[.int .i64 3,.int .i64 2,.int .i64 4,.int .i64 6] rfl rfl (by omega) (by omega) hr7 (by omega)).mono ?_
 rintro e w8 ⟨fw,_,rfl,hr8,hd8⟩
 have hw8:=(hw7.ext ((Ext.refl _).alloc _)).trans hd8
 have bz8:=(bz7.ext ((Ext.refl _).alloc _)).dr hd8 (by omega)
 obtain⟨a,rfl,ha⟩:∃ a:Nat,al=a∧a<64:=⟨al.toNat,by simp at hal;omega,by simp at hal;omega⟩
 obtain⟨p,rfl,hp1,hp⟩:∃ p:Nat,st=p∧1≤p∧p≤16:=⟨st.toNat,by simp at hst;omega,by simp at hst;omega,by simp at hst;omega⟩
 clear hal hst
 go_wp2_with fail
 refine (zdt hr8 (by omega) ha hp1 hp).mono ?_
 rintro e w9 ⟨s9,A9,n9,c9,rfl,hs9,hg9,hn9,hr9,hd9⟩
 have bz9:=bz8.dr hd9 (by omega)
 have hfin9:=za (zge (R:=R) (M:=M+30000) (L:=20000) (c:=c9) hs9 hg9 hn9 (hr9.more (by omega)) (hw8.trans hd9) bz9 hRl (Nat.le_refl _))
 have cz9:=bz9.cell
 have fz9:=bz9.frozen
 go_wp2_with fail
 exact bodyPost_ret (v:=.agg #[.int .i64 s9.al,.int .i64 s9.st,.slice A9 n9 c9]) (by simp [results,Tryz.results242,go_sem,cz9]) rfl hfin9.out
 ):P:=h
theorem zgC {R M:Nat} {w:World}(h:Rd w R M)(hM:M≤800000000) :
  Calls Tryz.prog 242 #[.pointer (some ⟨R,0,none⟩)] w (RetG R (M+30000) 20000 w):=by
 have hRl:=h.lt
 have hx0:=(Ext.refl w).alloc (.cells #[.int .i64 0,.int .i64 0,.slice none 0 0] 38)
 have bz:=Blk.new w 38 #[.int .i64 0,.int .i64 0,.slice none 0 0]
 go_enter Tryz.func242,Tryz.ntmps242
 go_wp2_with fail
 refine (zx (h.ext hx0) (by omega)).mono ?_
 rintro e w1 ⟨y,rfl,_,_,hr1,hd1⟩
 have hw1:=hx0.dr.trans hd1
 have bz1:=bz.dr hd1 (by omega)
 have hz1:=bz1.lt
 clear bz
 by_cases hy:y=0
 ·subst hy
  go_wp2_with fail
  refine (spec_l2Texts).mono ?_
  rintro e w2 ⟨A,n,c,l,rfl,hn,zil,hl,hx2⟩
  go_wp2_with fail
  refine (l19Rd_of (hr1.ext hx2) (by omega) (Reads.of_own zil) (by omega) hn).mono ?_
  rintro e w3 ⟨x,hx,rfl,hr3,hd3⟩
  have hxs:=hl x hx
  go_wp2_with fail
  refine (zci hr3 (by omega)).mono ?_
  rintro e w4 ⟨s,B,m,d,ok,rfl,hs,⟨hg,-⟩,hm,hr4,hd4⟩
  have hw4:Dr R w w4:=((hw1.ext hx2).trans hd3).trans hd4
  have bz4:=((bz1.ext hx2).dr hd3 (by omega)).dr hd4 (by omega)
  have hx5:=(Ext.refl w4).alloc (.cells #[.int .i64 s.al,.int .i64 s.st,.slice B m d] 38)
  have b5:=Blk.new w4 38 #[.int .i64 s.al,.int .i64 s.st,.slice B m d]
  cases ok
  ·have hr5:=hr4.ext hx5
   have hw5:=hw4.ext hx5
   have bz5:=bz4.ext hx5
   clear b5 hx5 hs hg
   go_wp2_with fail
   have C6:=(zaL [3,6,7,5,1,0,12] 7 #[.int .i64 3,.int .i64 6,.int .i64 7,.int .i64 5,.int .i64 1,.int .i64 0,.int .i64 12] rfl rfl (by omega) (by omega) hr5 (by omega))
   simp only [World.size_alloc] at C6
   refine C6.mono ?_
   rintro e w6 ⟨al,hal,rfl,hr6,hd6⟩
   have hw6:=(hw5.ext ((Ext.refl _).alloc _)).trans hd6
   have bz6:=(bz5.ext ((Ext.refl _).alloc _)).dr hd6 (by omega)
   exact yK03a1
  ·have hgood:=hg rfl
   have c5:=b5.cell
   have b45:=bz4.ext hx5
   have c45:=b45.cell
   have f45:=b45.frozen
   go_wp2_with fail
   generalize w4.alloc (.cells #[.int .i64 s.al,.int .i64 s.st,.slice B m d] 38)=w5 at *
   have zio:=zge (R:=R) (M:=M+30000) (L:=20000) (c:=d) (hs.ext hx5) hgood (by omega) ((hr4.more (by omega)).ext hx5) (hw4.ext hx5) b45 hRl (Nat.le_refl _)
   exact bodyPost_ret (v:=.agg #[.int .i64 s.al,.int .i64 s.st,.slice B m d]) (by simp [results,Tryz.results242,go_sem,c45]) rfl zio
 ·have hy':((y:Int)==0)=false:=(by rw [beq_eq_false_iff_ne];omega)
  go_wp2_with fail
  refine (zaL [3,6,7,5,1,0,12] 7 #[.int .i64 3,.int .i64 6,.int .i64 7,.int .i64 5,.int .i64 1,.int .i64 0,.int .i64 12] rfl rfl (by omega) (by omega) hr1 (by omega)).mono ?_
  rintro e w6 ⟨al,hal,rfl,hr6,hd6⟩
  have hw6:=(hw1.ext ((Ext.refl _).alloc _)).trans hd6
  have bz6:=(bz1.ext ((Ext.refl _).alloc _)).dr hd6 (by omega)
  exact yK03a1
def zfJ (b:Aut):Prop:=∃ a p:Nat,a<64∧1≤p∧p≤16∧shA a p (letters a 6).length b
theorem zfK.mono {R M N:Nat} {sh sh':Aut→Prop} {w w0 w':World} {e:Ending}(h:zfK R M sh w e w')(hd:Dr R w0 w)(hM:M≤N)(hs:∀ b,sh b→sh' b):zfK R N sh' w0 e w':=by
 obtain⟨b,A,n,c,A',n',c',he,ho,hsh,hr,hd'⟩:=h
 exact⟨b,A,n,c,A',n',c',he,ho.less hd.size,za (hs b hsh.out),hr.more hM,hd.trans hd'⟩
theorem zhv {R M N Z n c n' c':Nat} {A A':Option Addr} {b:Aut} {sh:Aut→Prop} {w w0 W:World} {cs:Array Value} {t:TypeId}(hx:Ext w w0)(ho:zZ W w0.heap.size A n c A' n' c' b)(hsh:sh b)(hr:Rd W R M)(hd:Dr R w0 W) (bz:Blk w0 Z t cs)(hc:cs.size=3)(hR:R<w.heap.size)(hZ:w.heap.size≤Z)(hM:M≤N) :
  Hid (zfK R N sh w (.returned (.agg #[.int .i64 b.al,.slice A n c,.slice A' n' c'])) (((W.setCell ⟨Z,0,none⟩ (.int .i64 b.al)).setCell ⟨Z,1,none⟩ (.slice A n c)).setCell ⟨Z,2,none⟩ (.slice A' n' c'))) ∧
  Blk (((W.setCell ⟨Z,0,none⟩ (.int .i64 b.al)).setCell ⟨Z,1,none⟩ (.slice A n c)).setCell ⟨Z,2,none⟩ (.slice A' n' c')) Z t #[.int .i64 b.al,.slice A n c,.slice A' n' c']:=by
 have hz:=bz.lt
 have hf:=zad W Z (.int .i64 b.al) (.slice A n c) (.slice A' n' c')
 refine⟨za ⟨b,A,n,c,A',n',c',rfl,(ho.keep hf (fun b h1 e=>by omega)).less hx.size,za hsh,(hr.more hM).frm hf (fun k hk e=>by omega),?_⟩,zau (bz.dr hd (by omega)) hc _ _ _⟩
 exact (((hx.dr.trans hd).setNew (p:=⟨Z,0,none⟩) hZ _).setNew (p:=⟨Z,1,none⟩) hZ _).setNew (p:=⟨Z,2,none⟩) hZ _
theorem spec_l1Some {R M:Nat} {w:World}(h:Rd w R M)(hM:M≤900000000) :
  Calls Tryz.prog 283 #[.pointer (some ⟨R,0,none⟩)] w (fun e w'=>∃ x:Nat,x<64∧e=.returned (.int .i64 x)∧Rd w' R (M+1)∧Dr R w w'):=by
 go_enter Tryz.func283,Tryz.ntmps283
 go_wp2_with fail
 refine (zaL [3,7,1,5,0,6,63,2,21] 9 #[.int .i64 3,.int .i64 7,.int .i64 1,.int .i64 5,.int .i64 0,.int .i64 6,.int .i64 63,.int .i64 2,.int .i64 21] rfl rfl (by omega) (by omega) h (by omega)).mono ?_
 rintro e w1 ⟨x,hx,rfl,hr1,hd1⟩
 obtain⟨y,hy,rfl⟩:∃ y:Nat,y<64∧x=(y:Int):=⟨x.toNat,by simp at hx;omega,by simp at hx;omega⟩
 clear hx
 go_wp2_with fail
 go_ret
 exact⟨y,hy,rfl,hr1,((Dr.refl R w).alloc _).trans hd1⟩
theorem yK03a3 {P:Prop}(h:P:=by
 intro e w4 hret
 obtain⟨b,A,n,c,A',n',c',rfl,zil,hsh,hr4,hd4⟩:=hret.mono (N:=M+500) (sh':=zfJ) hd13 (by omega) (fun b hb=>⟨a,p,ha,hp1,by omega,hb⟩)
 obtain⟨f1,f2⟩:=zhv (N:=M+500) (sh:=zfJ) hxz zil hsh.out hr4 hd4 bz rfl hRl (Nat.le_refl _) (Nat.le_refl _)
 have bz5:=bz.dr hd4 (by omega)
 have cZ:=bz5.cell
 have fZ:=bz5.frozen
 go_wp2_with fail
 have cf:=f2.cell
 exact bodyPost_ret (v:=.agg #[.int .i64 b.al,.slice A n c,.slice A' n' c']) (by simp [results,Tryz.results177,go_sem,cf]) rfl f1.out
 ):P:=h
theorem zgD {R M a:Nat} {w:World}(h:Rd w R M)(hM:M≤800000000)(ha:a<64) :
  Calls Tryz.prog 177 #[.pointer (some ⟨R,0,none⟩),.int .i64 a] w (zfK R (M+500) zfJ w):=by
 have hRl:=h.lt
 go_enter Tryz.func177,Tryz.ntmps177
 have hxz:=(Ext.refl w).alloc (.cells #[.int .i64 0,.slice none 0 0,.slice none 0 0] 31)
 have bz:=Blk.new w 31 #[.int .i64 0,.slice none 0 0,.slice none 0 0]
 go_wp2_with fail
 generalize w.alloc (.cells #[.int .i64 0,.slice none 0 0,.slice none 0 0] 31)=w1 at *
 refine (zx (h.ext hxz) (by omega)).mono ?_
 rintro e w2 ⟨y,rfl,-,-,hr2,hd2⟩
 by_cases hy:y=0
 ·subst hy
  go_wp2_with fail
  refine (zaL [3,2,4,1] 4 #[.int .i64 3,.int .i64 2,.int .i64 4,.int .i64 1] rfl rfl (by omega) (by omega) hr2 (by omega)).mono ?_
  rintro e w3 ⟨x,hx,rfl,hr3,hd3⟩
  obtain⟨p,hp1,hp2,rfl⟩:∃ y:Nat,1≤y∧y≤4∧x=(y:Int):=⟨x.toNat,by simp at hx;omega,by simp at hx;omega,by simp at hx;omega⟩
  clear hx
  have hd13:=(hd2.alloc _).trans hd3
  go_wp2_with fail
  refine (zgE hr3 (by omega) ha hp1 (by omega)).mono ?_
  exact yK03a3
 ·have hy':((y:Int)==0)=false:=by simp;omega
  go_wp2_with fail
  refine (zaL [2,3,1,4,5] 5 #[.int .i64 2,.int .i64 3,.int .i64 1,.int .i64 4,.int .i64 5] rfl rfl (by omega) (by omega) hr2 (by omega)).mono ?_
  rintro e w3 ⟨x,hx,rfl,hr3,hd3⟩
  obtain⟨p,hp1,hp2,rfl⟩:∃ y:Nat,1≤y∧y≤5∧x=(y:Int):=⟨x.toNat,by simp at hx;omega,by simp at hx;omega,by simp at hx;omega⟩
  clear hx
  have hd13:=(hd2.alloc _).trans hd3
  go_wp2_with fail
  refine (zfi hr3 (by omega) ha (by omega)).mono ?_
  exact yK03a3
section
variable {w0 W W':World} {R G M N:Nat} {al:Int} {v vA:Value} {rows:List Value} {ls:List (List Int)} {acc:List Bool}
theorem zbt.setAl (h:zbt w0 W R G M al v rows ls vA acc) (x:Int):zbt w0 (W.setCell ⟨G,0,none⟩ (.int .i64 x)) R G M x v rows ls vA acc:=by
 have hRG:=h.hR;have hGG:=h.hG
 have hf:=Frm.setCell W G 0 (.int .i64 x)
 refine⟨by simpa using h.blk.set_ 0 _,zf h.nx hf (fun b hb hS=>zq h.nx h.blk (by decide) hb hS),h.rows.frm hf (fun i r b hr hb hS=>?_),zf h.acc hf (fun b hb hS=>zq h.acc h.blk (by decide) hb hS),h.rd.frm hf (fun k hk e=>by omega),h.dr.setNew (p:=⟨G,0,none⟩) hGG _,hRG,hGG⟩
 obtain⟨l',_,ho⟩:=h.rows.row hr
 exact zq ho h.blk (by decide) hb hS
theorem zbt.setNext (h:zbt w0 W R G M al v rows ls vA acc) {v':Value}(ho:W.ownsRow w0.heap.size 137 1 v' 0 []):zbt w0 (W.setCell ⟨G,1,none⟩ v') R G M al v' [] [] vA acc:=by
 have hRG:=h.hR;have hGG:=h.hG
 have hf:=Frm.setCell W G 1 v'
 exact⟨by simpa using h.blk.set_ 1 _,zf ho hf (fun b hb hS=>zq ho h.blk (by decide) hb hS),zI.nil _ _,zf h.acc hf (fun b hb hS=>zq h.acc h.blk (by decide) hb hS),h.rd.frm hf (fun k hk e=>by omega),h.dr.setNew (p:=⟨G,1,none⟩) hGG _,hRG,hGG⟩
theorem zbt.setMarks (h:zbt w0 W R G M al v rows ls vA acc) {v':Value}(ho:W.ownsRow w0.heap.size 4 1 v' 0 []):zbt w0 (W.setCell ⟨G,2,none⟩ v') R G M al v rows ls v' []:=by
 have hRG:=h.hR;have hGG:=h.hG
 have hf:=Frm.setCell W G 2 v'
 refine⟨by simpa using h.blk.set_ 2 _,zf h.nx hf (fun b hb hS=>zq h.nx h.blk (by decide) hb hS),h.rows.frm hf (fun i r b hr hb hS=>?_),zf ho hf (fun b hb hS=>zq ho h.blk (by decide) hb hS),h.rd.frm hf (fun k hk e=>by omega),h.dr.setNew (p:=⟨G,2,none⟩) hGG _,hRG,hGG⟩
 obtain⟨l',_,ho⟩:=h.rows.row hr
 exact zq ho h.blk (by decide) hb hS
theorem zbt.growRow {i:Nat} {row:Value} {l:List Int} {x:Int} {g cap gN cN nN:Nat}(h:zbt w0 W R G M al (.slice (some ⟨gN,0,none⟩) nN cN) rows ls vA acc)(hn:nN=ls.length)(hr:rows[i]?=some row)(hl:ls[i]?=some l)
  (zil:W'.ownsRow w0.heap.size 3 1 (.slice (some ⟨g,0,none⟩) (l.length+1) cap) (l.length+1) (ints l++[.int .i64 x])) (hg:W.grownBy W' row.ownBlock) (hat:row.ownBlock=some g∨g=W.heap.size+1) :
  (∀ u,W.cell? ⟨G,u,none⟩=W'.cell? ⟨G,u,none⟩)∧Hid (W'.cell? ⟨gN,i,none⟩=some row)∧W'.frozen? ⟨gN,i,none⟩=false ∧
  zbt w0 (W'.setCell ⟨gN,i,none⟩ (.slice (some ⟨g,0,none⟩) (l.length+1) cap)) R G M al (.slice (some ⟨gN,0,none⟩) nN cN) (rows.set i (.slice (some ⟨g,0,none⟩) (l.length+1) cap)) (ls.set i (l++[x])) vA acc:=by
 subst hn
 have hRG:=h.hR;have hGG:=h.hG
 have hi:i<ls.length:=(List.getElem?_eq_some_iff.1 hl).1
 have ho:=h.rows.2.1 i _ l hr hl
 have hfr:Frm (fun k=>row.ownBlock=some k) W W':=Frm.of_grown hg
 obtain⟨hdr,hrd⟩:=h.grown ho hg
 have hB:Blk W' G 31 #[.int .i64 al,.slice (some ⟨gN,0,none⟩) ls.length cN,vA]:=h.blk.frm hfr (fun e=>zq ho h.blk (by decide) e rfl)
 have hnx:W'.ownsRow w0.heap.size 137 1 (.slice (some ⟨gN,0,none⟩) ls.length cN) ls.length rows:=zf h.nx hfr (fun b hb hS=>zaS h.nx ho (by decide) hb hS)
 have zim:W'.ownsRow w0.heap.size 4 1 vA acc.length (zaB acc):=zf h.acc hfr (fun b hb hS=>zaS h.acc ho (by decide) hb hS)
 have hgN:=(hnx.lt gN rfl).1
 have hlen:=h.rows.1
 have fresh:∀ (j:Nat) (r:Value) (b:Nat),j≠i→rows[j]?=some r→r.ownBlock=some b→b≠g:=fun j r b hji hj hb e=>by
  subst e
  rcases hat with h1|h1
  ·exact h.rows.2.2 j i r row b hj hr hji hb h1
  ·have:=h.low j r b hj hb
   omega
 have hrows:zI W' w0.heap.size (rows.set i (.slice (some ⟨g,0,none⟩) (l.length+1) cap)) (ls.set i (l++[x])):=by
  refine⟨by simp [hlen],fun j r m hj hm=>?_,fun j j' r r' b hj hj' hne hb=>?_⟩
  ·by_cases hji:i=j
   ·subst hji
    rw [List.getElem?_set_self (by omega)] at hj
    rw [List.getElem?_set_self hi] at hm
    obtain rfl:=Option.some.inj hj
    obtain rfl:=Option.some.inj hm
    simpa [ints] using zil
   ·rw [List.getElem?_set_ne hji] at hj hm
    exact zf (h.rows.2.1 j r m hj hm) hfr (fun b hb hS=>h.rows.2.2 j i r row b hj hr (fun e=>hji e.symm) hb hS)
  ·by_cases hji:i=j
   ·subst hji
    rw [List.getElem?_set_self (by omega)] at hj
    obtain rfl:=Option.some.inj hj
    rw [List.getElem?_set_ne hne] at hj'
    have hbg:g=b:=by simpa [Value.ownBlock] using hb
    subst hbg
    exact fun hc=>fresh j' r' _ (fun e=>hne e.symm) hj' hc rfl
   ·rw [List.getElem?_set_ne hji] at hj
    by_cases hji':i=j'
    ·subst hji'
     rw [List.getElem?_set_self (by omega)] at hj'
     obtain rfl:=Option.some.inj hj'
     intro hc
     have hbg:g=b:=by simpa [Value.ownBlock] using hc
     exact fresh j r b (fun e=>hji e.symm) hj hb hbg.symm
    ·rw [List.getElem?_set_ne hji'] at hj'
     exact h.rows.2.2 j j' r r' b hj hj' hne hb
 have hset:=Frm.setCell W' gN i (.slice (some ⟨g,0,none⟩) (l.length+1) cap)
 refine⟨fun u=>by rw [h.blk.cell,hB.cell],za (by rw [hnx.cellAt i (by omega),hr]),hnx.frozenAt i,⟨hB.frm hset (fun e=>zq hnx hB (by decide) rfl e.symm),?_,?_,zf zim hset (fun b hb hS=>?_),hrd.frm hset (fun k hk e=>by omega),hdr.setNew (p:=⟨gN,i,none⟩) hgN _,hRG,hGG⟩⟩
 ·rw [List.length_set]
  exact (hnx.stored i _).1
 ·refine hrows.frm hset (fun j r b hj hb hS=>?_)
  obtain⟨l',_,ho'⟩:=hrows.row hj
  subst hS
  exact zaS ho' hnx (by decide) hb rfl
 ·subst hS
  exact zaS zim hnx (by decide) hb rfl
end
def BdL (L:Nat) (ls:List (List Int)) (acc:List Bool):Prop:=ls.length≤L∧acc.length≤L∧∀ l∈ls,l.length≤L
theorem BdL.more {L K:Nat} {ls:List (List Int)} {acc:List Bool}(h:BdL L ls acc)(hK:L≤K):BdL K ls acc:=⟨Nat.le_trans h.1 hK,Nat.le_trans h.2.1 hK,fun l hl=>Nat.le_trans (h.2.2 l hl) hK⟩
def BdA (L:Nat) (b:Aut):Prop:=BdL L b.next b.acc
theorem BdA.of {b:Aut}(h:zfJ b):BdA 16 b:=by
 obtain⟨a,p,ha,hp1,hp,h1,h2,h3,h4⟩:=h
 exact⟨by omega,by omega,fun l hl=>by have:=h4 l hl;have:=zC a 6;omega⟩
theorem tot_le {L:Nat}:∀ ls:List (List Int),(∀ l∈ls,l.length≤L)→tot ls≤ls.length*L
 |[],_=>by simp [tot]
 |l :: r,h=>by
  have:=tot_le r (fun x hx=>h x (by simp [hx]))
  have:=h l (by simp)
  rw [tot_cons,List.length_cons,Nat.add_mul]
  omega
theorem BdA.size {L:Nat} {b:Aut}(h:BdA L b)(hL:L≤200):b.size≤1048576:=by
 have h1:=tot_le b.next h.2.2
 have h2:b.next.length*L≤200*200:=Nat.mul_le_mul (Nat.le_trans h.1 hL) hL
 have h3:=h.1;have h4:=h.2.1
 unfold Aut.size
 omega
theorem yK03a2 {P:Prop}(h:P:=by
 intro vA w4 hownA hgA hatA
 rw [Nat.zero_add,List.nil_append] at hownA
 obtain⟨BA,dA,rfl⟩:=zg hownA
 have hxA:Ext w2 w4:=hx0.grown hgA (fun k hk=>(hm.lt k hk).1)
 have hb:Blk w4 G 31 #[.int .i64 0,.slice none 0 0,.slice none 0 0]:=(hgA.block G hb.lt (fun e=>zq hm hb (by decide) e.symm rfl)).trans hb
 replace hx0:=hxA
 refine hK.out _ _ hx0 ?_
 refine pT ?_
 refine uQ ?_
 have cG:=hb.cell
 have fG:=hb.frozen
 (refine zb rfl rfl rfl rfl (fun K hK=>?_))
 go_simp
 refine hK.out _ _ ?_
 refine ze ?_
 have zio:Gra w2 (((w4.setCell ⟨G,0,none⟩ (.int .i64 a.al)).setCell ⟨G,1,none⟩ (.slice none 0 0)).setCell ⟨G,2,none⟩ (.slice BA n' dA)) G a.al (.slice none 0 0) [] (.slice BA n' dA) a.acc:=⟨zau hb rfl _ _ _,⟨[],World.ownsRow_nil _ _ _ _,zI.nil _ _⟩,by
  rw [← hL'.out]
  exact zf hownA (zad w4 G _ _ _) (fun b hv hS=>zq hownA hb (by decide) hv hS),hx0.frm (zad w4 G _ _ _) (fun k hk e=>by omega),hG⟩
 go_wp2_with fail
 go_meet
 exact⟨G,_,rfl,zio⟩
 ):P:=h
theorem zas {lo hi:Nat} {A:Option Addr} {n c:Nat} {A':Option Addr} {n' c':Nat} {a:Aut} {w:World}(h:zG w lo hi A n A' n' a)(hs:a.size≤1048576) :
  Calls Tryz.prog 123 #[.agg #[.int .i64 a.al,.slice A n c,.slice A' n' c']] w (RetAut w a):=by
 have h1:n≤1048576:=by have:=h.n1;unfold Aut.size at hs;omega
 have h2:n'≤1048576:=by have:=h.n2;unfold Aut.size at hs;omega
 have hrow:∀ (k:Nat) (l:List Int),a.next[k]?=some l→l.length≤1048576:=fun k l hl=>by
  have h1:=zfl hl
  have h2:=zgJ a.next (k+1)
  unfold Aut.size at hs
  omega
 have Hrow:=za hrow
 have hL:=za h.n1
 have hL':=za h.n2
 have HS:=za (fun W (hW:Ext w W)=>h.1.ext hW)
 have HA:=za (fun W (hW:Ext w W)=>h.2.2.ext hW)
 have hlen:=h.1.len
 clear hrow h hs
 go_enter Tryz.func123,Tryz.ntmps123
 obtain⟨b1,bz⟩:=zU (Ext.refl ((w.alloc (.cells #[.int .i64 a.al,.slice A n c,.slice A' n' c'] 31)).alloc (.cells #[.int .i64 0,.slice none 0 0,.slice none 0 0] 31)))
 have hw2:Ext w ((w.alloc (.cells #[.int .i64 a.al,.slice A n c,.slice A' n' c'] 31)).alloc (.cells #[.int .i64 0,.slice none 0 0,.slice none 0 0] 31)):=((Ext.refl w).alloc _).alloc _
 have hsz2:w.heap.size+2=((w.alloc (.cells #[.int .i64 a.al,.slice A n c,.slice A' n' c'] 31)).alloc (.cells #[.int .i64 0,.slice none 0 0,.slice none 0 0] 31)).heap.size:=by simp
 go_upto_region 1 with fail
 generalize (w.alloc (.cells #[.int .i64 a.al,.slice A n c,.slice A' n' c'] 31)).alloc (.cells #[.int .i64 0,.slice none 0 0,.slice none 0 0] 31)=w2 at *
 go_cut [3] (fun v wx=>∃ (G:Nat) (vA:Value),v=.pointer (some ⟨G,0,none⟩)∧Gra w2 wx G a.al (.slice none 0 0) [] vA a.acc)
 case first =>
  have c1:=fun W (hW:Ext w2 W)=>(b1.ext hW).cell
  have hww:=Ext.refl w2
  refine uR (fun X=>Ext w2 X) [8] (zw.app [0,1,3,4] (zw.two 2 (zw.two 5 (zw.of [6,7,8]) 7 (zw.of [5,6,8])) 7 (zw.of [2,5,6,8]))) ?_
  refine uQ ?_
  have hx0:Ext w2 w2.drew:=hww.drew
  generalize w2.drew=wd at *
  refine zm rfl rfl rfl rfl (fun K hK=>?_) (fun K hK=>?_)
  ·go_simp
   have hm:=World.ownsRow_made (base:=w2.heap.size) (e:=4) (size:=1) wd #[] 0 hx0.size (Nat.zero_le _) rfl
   have hx1:=(Ext.refl wd).alloc (.cells #[] 4)
   replace hx0:=hx0.trans hx1
   refine hK.out _ _ hx0 ?_
   generalize wd.alloc (.cells #[] 4)=wm at *
   generalize wd.heap.size=M at *
   refine pT ?_
   refine uQ ?_
   clear hK
   refine zm rfl rfl rfl rfl (fun K hK=>?_) (fun K hK=>?_)
   ·skip
    refine zv wm _ _ 26 rfl w2.heap.size 4 _ 1 1 Tryz.underlying26 zaX rfl (by decide) (.slice (some ⟨M,0,none⟩) 0 0) 0 [] rfl hm _ _ A' n' c' (zaB a.acc) rfl (HA.out _ (hw2.trans hx0)) (zeS _) (by unfold maxLen;omega) (by omega) hx0.size ?_
    intro vA w4 hownA hgA hatA
    rw [Nat.zero_add,List.nil_append] at hownA
    obtain⟨BA,dA,rfl⟩:=zg hownA
    have hxA:Ext w2 w4:=hx0.grown hgA (fun k hk=>(hm.lt k hk).1)
    replace hx0:=hxA
    refine hK.out _ _ hx0 ?_
    refine pT ?_
    refine uQ ?_
    (refine zd rfl rfl rfl (fun K hK=>?_);go_simp)
    have hx1:=(Ext.refl w4).alloc (.cells #[.int .i64 0,.slice none 0 0,.slice none 0 0] 31)
    have hb:=Blk.new w4 31 #[.int .i64 0,.slice none 0 0,.slice none 0 0]
    have hG:=hx0.size
    replace hownA:=zh hownA hx1
    replace hx0:=hx0.trans hx1
    refine hK.out _ _ hx0 ?_
    generalize w4.alloc (.cells #[.int .i64 0,.slice none 0 0,.slice none 0 0] 31)=wg at *
    generalize w4.heap.size=G at *
    refine pT ?_
    refine uQ ?_
    have cG:=hb.cell
    have fG:=hb.frozen
    (refine zb rfl rfl rfl rfl (fun K hK=>?_))
    go_simp
    refine hK.out _ _ ?_
    refine ze ?_
    have zio:Gra w2 (((wg.setCell ⟨G,0,none⟩ (.int .i64 a.al)).setCell ⟨G,1,none⟩ (.slice none 0 0)).setCell ⟨G,2,none⟩ (.slice BA n' dA)) G a.al (.slice none 0 0) [] (.slice BA n' dA) a.acc:=⟨zau hb rfl _ _ _,⟨[],World.ownsRow_nil _ _ _ _,zI.nil _ _⟩,by
     rw [← hL'.out]
     exact zf hownA (zad wg G _ _ _) (fun b hv hS=>zq hownA hb (by decide) hv hS),hx0.frm (zad wg G _ _ _) (fun k hk e=>by omega),hG⟩
    go_wp2_with fail
    go_meet
    exact⟨G,_,rfl,zio⟩
   ·go_simp
    have hx1:=(Ext.refl wm).alloc (.cells #[.int .i64 0,.slice none 0 0,.slice none 0 0] 31)
    have hb:=Blk.new wm 31 #[.int .i64 0,.slice none 0 0,.slice none 0 0]
    have hG:=hx0.size
    replace hm:=zh hm hx1
    replace hx0:=hx0.trans hx1
    refine hK.out _ _ hx0 ?_
    generalize wm.alloc (.cells #[.int .i64 0,.slice none 0 0,.slice none 0 0] 31)=wg at *
    generalize wm.heap.size=G at *
    refine pT ?_
    refine uQ ?_
    refine zd rfl rfl rfl (fun K hK=>?_)
    refine zv wg _ _ 26 rfl w2.heap.size 4 _ 1 1 Tryz.underlying26 zaX rfl (by decide) (.slice (some ⟨M,0,none⟩) 0 0) 0 [] rfl hm _ _ A' n' c' (zaB a.acc) rfl (HA.out _ (hw2.trans hx0)) (zeS _) (by unfold maxLen;omega) (by omega) hx0.size ?_
    exact yK03a2
  ·go_simp
   have hx1:=(Ext.refl wd).alloc (.cells #[.int .i64 0,.slice none 0 0,.slice none 0 0] 31)
   have hb:=Blk.new wd 31 #[.int .i64 0,.slice none 0 0,.slice none 0 0]
   have hG:=hx0.size
   replace hx0:=hx0.trans hx1
   refine hK.out _ _ hx0 ?_
   generalize wd.alloc (.cells #[.int .i64 0,.slice none 0 0,.slice none 0 0] 31)=wg at *
   generalize wd.heap.size=G at *
   refine pT ?_
   refine uQ ?_
   (refine zd rfl rfl rfl (fun K hK=>?_);go_simp)
   have hm:=World.ownsRow_made (base:=w2.heap.size) (e:=4) (size:=1) wg #[] 0 hx0.size (Nat.zero_le _) rfl
   have hx1:=(Ext.refl wg).alloc (.cells #[] 4)
   replace hb:=hb.ext hx1
   replace hx0:=hx0.trans hx1
   refine hK.out _ _ hx0 ?_
   generalize wg.alloc (.cells #[] 4)=wm at *
   generalize wg.heap.size=M at *
   refine pT ?_
   refine uQ ?_
   refine zd rfl rfl rfl (fun K hK=>?_)
   refine zv wm _ _ 26 rfl w2.heap.size 4 _ 1 1 Tryz.underlying26 zaX rfl (by decide) (.slice (some ⟨M,0,none⟩) 0 0) 0 [] rfl hm _ _ A' n' c' (zaB a.acc) rfl (HA.out _ (hw2.trans hx0)) (zeS _) (by unfold maxLen;omega) (by omega) hx0.size ?_
   exact yK03a2
 case rest =>
  obtain⟨G,vA,rfl,hgr⟩:=hcut
  have k1:=(b1.ext hgr.ext).cell
  go_wp2_with fail
  go_loopw [4] (fun i wr=>∃ (k:Nat) (v:Value),k≤n∧i=.int .i64 k∧Gra w2 wr G a.al v (a.next.take k) vA a.acc) (fun i _=>n - (intOf i).toNat)
  case atStart=>exact⟨0,_,Nat.zero_le _,rfl,by simpa using hgr⟩
  case round =>
   clear hgr k1
   obtain⟨k,v,hk,rfl,hgr⟩:=hrel
   by_cases hlt:k<n
   ·obtain⟨ad,Ak,ck,l,rfl,_,_,hl,hc0,hrk⟩:=(HS.out wr (hw2.trans hgr.ext)).row hlt
    have hll:=Hrow.out k l hl.out
    have Htk:=za (show a.next.take (k+1)=a.next.take k++[l] by rw [List.take_add_one,hl.out];rfl)
    have htl:=za (show (a.next.take k).length=k by rw [List.length_take];have:=hL.out;omega)
    obtain⟨rows,hv,hrows⟩:=hgr.own
    have k1:=(b1.ext hgr.ext).cell
    go_upto_region 5 with fail
    clear k1
    have cG:∀ W,Ext wr W→∀ q,W.cell? ⟨G,q,none⟩=#[Value.int .i64 a.al,v,vA][q]?:=fun W hW=>(hgr.blk.ext hW).cell
    have hww:=Ext.refl wr
    have Hrk:=za (fun W (hW:Ext wr W)=>hrk.ext hW)
    have C1:∀ W,Ext wr W→∀ q,W.cell? ⟨w.heap.size,q,none⟩=#[Value.int .i64 a.al,.slice (some ad) n c,.slice A' n' c'][q]?:=fun W hW=>((b1.ext hgr.ext).ext hW).cell
    have Cr:∀ W,Ext wr W→W.cell? (ad.add k)=some (.slice Ak l.length ck):=fun W hW=>hW.cell_some hc0
    have hkn:(k:Int)<(n:Int):=by omega
    clear hc0 hrk
    refine uR (fun X=>Ext wr X) [10,12] (zw.of [0,1,3,4,5,6,7,2,8,9,10,11,12]) ?_
    refine uQ ?_
    have hx0:Ext wr wr.drew:=hww.drew
    generalize wr.drew=wd at *
    (refine zd rfl rfl rfl (fun K hK=>?_);go_simp)
    have hm:=World.ownsRow_made (base:=wr.heap.size) (e:=3) (size:=1) wd #[] 0 hx0.size (Nat.zero_le _) rfl
    have hx1:=(Ext.refl wd).alloc (.cells #[] 3)
    replace hx0:=hx0.trans hx1
    refine hK.out _ _ hx0 ?_
    generalize wd.alloc (.cells #[] 3)=wm at *
    generalize wd.heap.size=M at *
    refine pT ?_
    refine uQ ?_
    refine zd rfl rfl rfl (fun K hK=>?_)
    refine zv wm _ _ 137 rfl wr.heap.size 3 _ 1 8 Tryz.underlying137 zY rfl (by decide) (.slice (some ⟨M,0,none⟩) 0 0) 0 [] rfl hm _ _ Ak l.length ck (ints l) rfl (Hrk.out _ hx0) (zfZ _) (by unfold maxLen;omega) (by omega) hx0.size ?_
    intro vR w3 hrow hgR hatR
    rw [Nat.zero_add,List.nil_append] at hrow
    obtain⟨BR,dR,rfl⟩:=zg hrow
    have hww3:Ext wr w3:=hx0.grown hgR (fun k hk=>(hm.lt k hk).1)
    refine hK.out _ _ hww3 ?_
    refine pT ?_
    refine uQ ?_
    (refine zd rfl rfl rfl (fun K hK=>?_);go_simp)
    refine hK.out _ _ (hww3.alloc _) ?_
    refine pT ?_
    (refine zb rfl rfl rfl rfl (fun K hK=>?_))
    refine zaG w2 w3 _ _ _ rfl 137 _ 1 24 Tryz.underlying25 zbJ rfl (by decide) v (a.next.take k).length rows _ _ rfl rfl (hgr.ext.trans hww3).size (zh hv hww3) rfl (zaJ _ _ _) (by unfold maxLen;have:=htl.out;omega) (by have:=htl.out;omega) ?_
    intro g5 cap5 w5 ziy hg5 hat5 hlt5
    refine hK.out _ _ ?_
    refine pT ?_
    refine uQ ?_
    obtain⟨p1,p2,p3⟩:=hgr.push hrows hv hww3 hrow (W':=w5) ziy hg5 hat5
    have p1':=p1.out
    (refine zb rfl rfl rfl rfl (fun K hK=>?_))
    go_simp
    refine hK.out _ _ ?_
    refine ze ?_
    go_wp2_with fail
    go_roundw
    case rel=>exact⟨k+1,_,by omega,by go_num,by rw [Htk.out];first|exact p3|simpa using p3⟩
    case measure=>simp [intOf];omega
   ·obtain rfl:n=k:=by omega
    obtain⟨A5,c5,rfl⟩:∃ A5 c5,v=.slice A5 n c5:=by
     obtain⟨rows,hv,_⟩:=hgr.own
     rw [List.take_of_length_le (by have:=hL.out;omega),← hL.out] at hv
     exact zg hv
    obtain⟨B5,d5,rfl⟩:=zg hgr.acc
    have k1:=(b1.ext hgr.ext).cell
    have cG:=hgr.blk.cell
    have hbz:=bz.ext hgr.ext
    have cZ:=hbz.cell
    have fZ:=hbz.frozen
    have hfl:=zad wr (w.heap.size+1) (.int .i64 a.al) (.slice A5 n c5) (.slice B5 a.acc.length d5)
    have hbf:=zau hbz rfl (.int .i64 a.al) (.slice A5 n c5) (.slice B5 a.acc.length d5)
    have hxf:=(hw2.trans hgr.ext).frm hfl (fun k hk e=>by omega)
    have zio:=za (show RetAut w a (.returned (.agg #[.int .i64 a.al,.slice A5 n c5,.slice B5 a.acc.length d5])) (((wr.setCell ⟨w.heap.size+1,0,none⟩ (.int .i64 a.al)).setCell ⟨w.heap.size+1,1,none⟩ (.slice A5 n c5)).setCell ⟨w.heap.size+1,2,none⟩ (.slice B5 a.acc.length d5)) from by
     refine⟨A5,n,c5,B5,a.acc.length,d5,rfl,⟨?_,hL.out,?_,rfl⟩,hxf⟩
     ·have ho:=hgr.own
      rw [List.take_of_length_le (by have:=hL.out;omega)] at ho
      exact (ho.keep hfl (fun b h1 e=>by omega)).less (by omega)
     ·exact zn (zbo hgr.acc hfl (fun b h1 e=>by omega)) (by omega))
    go_wp2_with fail
    generalize ((wr.setCell ⟨w.heap.size+1,0,none⟩ (.int .i64 a.al)).setCell ⟨w.heap.size+1,1,none⟩ (.slice A5 n c5)).setCell ⟨w.heap.size+1,2,none⟩ (.slice B5 a.acc.length d5)=wf at *
    have cf:=hbf.cell
    exact bodyPost_ret (v:=.agg #[.int .i64 a.al,.slice A5 n c5,.slice B5 a.acc.length d5]) (by simp [results,Tryz.results123,go_sem,cf]) rfl zio.out
theorem eq_edge (a b c d e f:Int) (w:World):(Op.equalIn 10000 153 (.agg #[.int .i64 a,.int .i64 b,.int .i64 c]) (.agg #[.int .i64 d,.int .i64 e,.int .i64 f])).run Tryz.prog w=.ok (a==d&&(b==e&&c==f)) w:=by
 have u3:=Tryz.underlying3
 have a3:=Tryz.isAgg3
 have z3:=Tryz.sizeOf3
 have hS:Tryz.prog.underlying 153=some (.struct (Tryz.prog.fieldsOf 153)):=by kernel_rfl
 have hp:Tryz.prog.stoodInHeld 153=false:=by kernel_rfl
 rw [show (10000:Nat)=9999+1 from rfl,run_equalIn_agg w 9999 153 _ _ hS hp]
 simp only [Program.fieldsOf,Tryz.underlying153]
 go_simp
 by_cases h1:a=d<;>by_cases h2:b=e<;>by_cases h3:c=f<;>simp [h1,h2,h3]
theorem zdg (es:List Edg):∀ u∈zu es,u.oneCell'=true:=by
 induction es with
 |nil=>intro u h;cases h
 |cons e r ih =>
  intro u h
  simp only [zu,List.mem_cons] at h
  rcases h with rfl|rfl|rfl|h
  ·rfl
  ·rfl
  ·rfl
  ·exact ih u h
theorem zdh {es:List Edg} {k:Nat} {e:Edg}(h:es[k]?=some e) (x:Int) :
  (zu es).set (k*3) (.int .i64 x)=zu (es.set k ⟨x,e.le,e.ta⟩)∧(zu es).set (k*3+1) (.int .i64 x)=zu (es.set k ⟨e.fr,x,e.ta⟩)∧(zu es).set (k*3+2) (.int .i64 x)=zu (es.set k ⟨e.fr,e.le,x⟩):=by
 induction es generalizing k with
 |nil=>simp at h
 |cons a r ih =>
  cases k with
  |zero=>simp at h;subst h;exact⟨rfl,rfl,rfl⟩
  |succ k =>
   have:=ih (k:=k) (by simpa using h)
   have e1:(k+1)*3=k*3+1+1+1:=by omega
   refine⟨?_,?_,?_⟩<;>rw [e1]<;>simp only [zu,List.set_cons_succ]
   ·rw [this.1]
   ·rw [this.2.1]
   ·rw [this.2.2]
section
variable {w0 wB W:World} {R G M:Nat} {al st:Int} {es:List Edg}
theorem Acc.turn {g m c j:Nat} {x:Int} {fs:List Edg}(h:Acc w0 wB W R G M al st (.slice (some ⟨g,0,none⟩) m c) es)(hm:m=es.length)(hs:(zu es).set j (.int .i64 x)=zu fs)(hl:fs.length=es.length) :
  Acc w0 wB (W.setCell ⟨g,j,none⟩ (.int .i64 x)) R G M al st (.slice (some ⟨g,0,none⟩) m c) fs:=by
 have hgG:g≠G:=h.far rfl
 have hg:=(h.own.lt g rfl).1
 have hR:=h.hR
 have hB:=h.hB
 have hf:=Frm.setCell W g j (.int .i64 x)
 refine⟨h.blk.frm hf (by omega),?_,h.rd.frm hf (fun k h1 h2=>by omega),h.dr.setNew (by dsimp only;omega) _,?_,h.hR,h.hB,h.hG⟩
 ·have ho:=h.own
  rw [← hm] at ho
  have:=(ho.stored j (.int .i64 x)).1
  rw [hs] at this
  rw [hl,← hm]
  exact this
 ·exact⟨h.fr.os,h.fr.tape,h.fr.output,by simpa [World.setCell] using h.fr.size,fun k hk hn=>(Below.heap_setCell _ _ _ _ (by dsimp only;omega)).trans (h.fr.block k hk hn)⟩
end
theorem wrong_acc {R M G:Nat} {al st:Int} {es:List Edg} {w w1 W:World} {v:Value}(hr:Rd w R M)(hx:Ext w w1)(hR:R<w.heap.size)(hxW:Ext w1 W) (zil:W.ownsRow w1.heap.size 153 3 v es.length (zu es))(hG:w1.heap.size≤G)(hB:Blk W G 38 #[.int .i64 al,.int .i64 st,v]) :
  Acc w w1 W R G M al st v es:=
 ⟨hB,zil,hr.ext (hx.trans hxW),(hx.trans hxW).dr,hxW.toFrm,hR,hx.size,Nat.le_trans hx.size hG⟩
theorem edge_lit (w:World):(w.alloc (.cells #[] 153)).drew.ownsRow w.heap.size 153 3 (.slice (some ⟨w.heap.size,0,none⟩) 0 0) 0 []:=
 World.ownsRow_lit w #[] 0 (Nat.le_refl _) (by unfold maxLen;omega) rfl
theorem zhD {W:World} {base n:Nat} {v:Value} {es:List Edg}(hn:n=es.length)(h:W.ownsRow base 153 3 v n (zu es)):W.ownsRow base 153 3 v es.length (zu es):=by
 subst hn
 exact h
theorem zfI {R M G:Nat} {al st:Int} {es:List Edg} {w w1 W:World} {v:Value}(hr:Rd w R M)(hx:Ext w w1)(hR:R<w.heap.size)(hxW:Ext w1 W) (zil:W.ownsRow w1.heap.size 153 3 v es.length (zu es))(hB:Blk W G 38 #[.int .i64 0,.int .i64 0,.slice none 0 0])(hG:w1.heap.size≤G) :
  ∃ (G':Nat) (v':Value),Value.pointer (some ⟨G,0,none⟩)=.pointer (some ⟨G',0,none⟩)∧w1.heap.size≤G'∧Acc w w1 (((W.setCell ⟨G,0,none⟩ (.int .i64 al)).setCell ⟨G,1,none⟩ (.int .i64 st)).setCell ⟨G,2,none⟩ v) R G' M al st v' es:=by
 have hf:=zdV W G (.int .i64 al) (.int .i64 st) v
 have hne:∀ b,v.ownBlock=some b→b≠G:=by
  rintro b hv rfl
  rcases zil.2 with ⟨rfl,_⟩|⟨g,cap,cur,rfl,_,hh,_⟩
  ·simp [Value.ownBlock] at hv
  ·have hg:g=b:=by simpa [Value.ownBlock] using hv
   subst hg
   unfold Blk at hB
   rw [hh] at hB
   injection hB with hB
   injection hB with _ ht
   exact absurd ht (by decide)
 refine⟨G,v,rfl,hG,wrong_acc hr hx hR ?_ (zf zil hf (fun b hv hS=>hne b hv hS)) hG (by simpa using ((hB.set_ 0 (.int .i64 al)).set_ 1 (.int .i64 st)).set_ 2 v)⟩
 exact ((hxW.setCell (p:=⟨G,0,none⟩) hG _).setCell (p:=⟨G,1,none⟩) hG _).setCell (p:=⟨G,2,none⟩) hG _
theorem zfX {w0 wB W:World} {R G M:Nat} {al st:Int} {A:Option Addr} {n c:Nat} {es:List Edg}(h:Acc w0 wB W R G M al st (.slice A n c) es)(hn:0<n):∃ g,A=some ⟨g,0,none⟩:=by
 rcases h.own.2 with ⟨hv,h0⟩|⟨g,cap,cur,hv,_⟩
 ·injection hv with _ h2 _;omega
 ·injection hv with h1
  exact⟨g,h1⟩
theorem yK03a5 {P:Prop}(h:P:=by
 have h1':=h1.out
 (refine zL rfl rfl rfl rfl (fun K hK=>?_))
 go_simp
 refine hK.out _ _ ?_
 refine zaj ?_
 go_wp2_with fail
 go_meet
 exact⟨_,_,_,_,h3.more (by omega),by have:=HnL.out;simp;omega⟩
 ):P:=h
theorem yK03a6 {P:Prop}(h:P:=by
 (refine zL rfl rfl rfl rfl (fun K hK=>?_))
 go_simp
 refine hK.out _ _ ?_
 refine zaj ?_
 go_wp2_with fail
 go_meet
 exact⟨_,_,_,_,hst.more (by omega),by have:=HnL.out;simp;omega⟩
 ):P:=h
theorem zbC {R M n c L:Nat} {A:Option Addr} {s:Sys} {w:World}(h:Rd w R M)(hM:M≤900000000)(hs:zbq w R A n s)(hn:n≤L)(hL:L≤100000) :
  Calls Tryz.prog 180 #[.pointer (some ⟨R,0,none⟩),.agg #[.int .i64 s.al,.int .i64 s.st,.slice A n c]] w (RetA R (M+10) (L+1) w):=by
 have hRl:=h.lt
 have hr0:=hs.at_.2
 have hen:=za hs.1
 obtain⟨al,st,es⟩:=s
 simp only at hr0 hen ⊢
 have hx1:Ext w ((w.alloc (.cells #[.int .i64 al,.int .i64 st,.slice A n c] 38)).alloc (.cells #[.int .i64 0,.int .i64 0,.slice none 0 0] 38)):=((Ext.refl _).alloc _).alloc _
 obtain⟨bS,bZ⟩:=zU (Ext.refl ((w.alloc (.cells #[.int .i64 al,.int .i64 st,.slice A n c] 38)).alloc (.cells #[.int .i64 0,.int .i64 0,.slice none 0 0] 38)))
 have hsz:((w.alloc (.cells #[.int .i64 al,.int .i64 st,.slice A n c] 38)).alloc (.cells #[.int .i64 0,.int .i64 0,.slice none 0 0] 38)).heap.size=w.heap.size+2:=by simp
 have HbS:=za bS
 have HbZ:=za bZ
 have Hx1:=za hx1
 have Hsz:=za hsz
 clear bS bZ hx1 hsz hs
 go_enter Tryz.func180,Tryz.ntmps180
 go_wp2_with fail
 generalize (w.alloc (.cells #[.int .i64 al,.int .i64 st,.slice A n c] 38)).alloc (.cells #[.int .i64 0,.int .i64 0,.slice none 0 0] 38)=w1 at *
 have hz1:w.heap.size+2≤w1.heap.size:=by rw [Hsz.out];exact Nat.le_refl _
 go_upto_region 1 with fail
 go_cut [5] (fun s5 wx=>∃ (G:Nat) (v:Value),s5=.pointer (some ⟨G,0,none⟩)∧w1.heap.size≤G∧Acc w w1 wx R G M al st v es)
 case first =>
  have cS:∀ W,Ext w1 W→∀ q,W.cell? ⟨w.heap.size,q,none⟩=#[Value.int .i64 al,.int .i64 st,.slice A n c][q]?:=fun W hW=>(HbS.out.ext hW).cell
  refine tR (fun X=>Ext w1 X) [10] (Ord.app [0,1,2,3,5,6] (Ord.two 4 (Ord.two 7 (Ord.of [8,9,10]) 9 (Ord.of [7,8,10])) 9 (Ord.of [4,7,8,10]))) ?_
  refine tQ ?_
  refine zfm rfl rfl rfl rfl (fun K hK=>?_) (fun K hK=>?_)
  ·go_simp
   have hx2:Ext w1 (w1.alloc (.cells #[] 153)).drew:=((Ext.refl w1).alloc _).drew
   have zil:(w1.alloc (.cells #[] 153)).drew.ownsRow w1.heap.size 153 3 (.slice (some ⟨w1.heap.size,0,none⟩) 0 0) 0 []:=edge_lit w1
   have hz2:(w1.alloc (.cells #[] 153)).drew.heap.size=w1.heap.size+1:=by simp
   refine hK.out _ _ hx2 ?_
   refine pT ?_
   generalize (w1.alloc (.cells #[] 153)).drew=w2 at *
   refine zfm rfl rfl rfl rfl (fun K hK=>?_) (fun K hK=>?_)
   ·refine zv _ _ _ _ rfl w1.heap.size 153 _ 3 24 Tryz.underlying36 zbg rfl (by decide) (.slice (some ⟨w1.heap.size,0,none⟩) 0 0) 0 [] rfl zil (R+1) w.heap.size A n c (zu es) rfl (hr0.ext (Hx1.out.trans hx2)) (zdg es) (by unfold maxLen;omega) (by omega) hx2.size ?_
    intro v w3 zix hg3 hat3
    rw [Nat.zero_add,List.nil_append] at zix
    obtain⟨A3,c3,rfl⟩:=zg zix
    have hx3:Ext w1 w3:=hx2.grown hg3 (fun k hk=>by simp [Value.ownBlock] at hk;omega)
    refine hK.out _ _ hx3 ?_
    refine pT ?_
    refine tQ ?_
    (refine zA rfl rfl rfl (fun K hK=>?_);go_simp)
    refine hK.out _ _ (hx3.alloc _) ?_
    refine pT ?_
    refine tQ ?_
    (refine zL rfl rfl rfl rfl (fun K hK=>?_))
    go_simp
    refine hK.out _ _ ?_
    refine zaj ?_
    go_wp2_with fail
    go_meet
    exact⟨w3.heap.size,.slice A3 n c3,rfl,hx3.size,wrong_acc h Hx1.out hRl (hx3.alloc _) (zh (zhD hen.out zix) ((Ext.refl _).alloc _)) hx3.size (Blk.new _ _ _)⟩
   ·go_simp
    have hx3:=hx2.alloc (.cells #[.int .i64 0,.int .i64 0,.slice none 0 0] 38)
    have hx23:=(Ext.refl w2).alloc (.cells #[.int .i64 0,.int .i64 0,.slice none 0 0] 38)
    have hb3:=Blk.new w2 38 #[.int .i64 0,.int .i64 0,.slice none 0 0]
    replace zil:=zh zil hx23
    refine hK.out _ _ hx3 ?_
    generalize w2.alloc (.cells #[.int .i64 0,.int .i64 0,.slice none 0 0] 38)=w2' at *
    rw [hz2] at hb3
    have hx2:=hx3
    refine pT ?_
    refine zA rfl rfl rfl (fun K hK=>?_)
    refine zv _ _ _ _ rfl w1.heap.size 153 _ 3 24 Tryz.underlying36 zbg rfl (by decide) (.slice (some ⟨w1.heap.size,0,none⟩) 0 0) 0 [] rfl zil (R+1) w.heap.size A n c (zu es) rfl (hr0.ext (Hx1.out.trans hx2)) (zdg es) (by unfold maxLen;omega) (by omega) hx2.size ?_
    intro v w3 zix hg3 hat3
    rw [Nat.zero_add,List.nil_append] at zix
    obtain⟨A3,c3,rfl⟩:=zg zix
    have hx3:Ext w1 w3:=hx2.grown hg3 (fun k hk=>by simp [Value.ownBlock] at hk;omega)
    have hb4:Blk w3 (w1.heap.size+1) 38 #[.int .i64 0,.int .i64 0,.slice none 0 0]:=hb3.frm (Frm.of_grown hg3) (by simp [Value.ownBlock])
    refine hK.out _ _ hx3 ?_
    refine pT ?_
    refine tQ ?_
    have cE:=hb4.cell
    have fE:=hb4.frozen
    (refine zL rfl rfl rfl rfl (fun K hK=>?_))
    go_simp
    refine hK.out _ _ ?_
    refine zaj ?_
    go_wp2_with fail
    go_meet
    exact zfI h Hx1.out hRl hx3 (zhD hen.out zix) hb4 (by omega)
  ·go_simp
   have hx2:Ext w1 (w1.alloc (.cells #[.int .i64 0,.int .i64 0,.slice none 0 0] 38)).drew:=((Ext.refl w1).alloc _).drew
   have hb2:Blk (w1.alloc (.cells #[.int .i64 0,.int .i64 0,.slice none 0 0] 38)).drew w1.heap.size 38 #[.int .i64 0,.int .i64 0,.slice none 0 0]:=Blk.new w1 _ _
   have hz2:(w1.alloc (.cells #[.int .i64 0,.int .i64 0,.slice none 0 0] 38)).drew.heap.size=w1.heap.size+1:=by simp
   refine hK.out _ _ hx2 ?_
   refine pT ?_
   generalize (w1.alloc (.cells #[.int .i64 0,.int .i64 0,.slice none 0 0] 38)).drew=w2 at *
   (refine zA rfl rfl rfl (fun K hK=>?_);go_simp)
   have hx3:=hx2.alloc (.cells #[] 153)
   have zil:(w2.alloc (.cells #[] 153)).ownsRow w1.heap.size 153 3 (.slice (some ⟨w1.heap.size+1,0,none⟩) 0 0) 0 []:=by
    rw [← hz2]
    exact World.ownsRow_lit w2 #[] 0 hx2.size (by unfold maxLen;omega) rfl
   have hb3:=hb2.ext ((Ext.refl w2).alloc (.cells #[] 153))
   refine hK.out _ _ hx3 ?_
   generalize w2.alloc (.cells #[] 153)=w3 at *
   refine pT ?_
   refine zA rfl rfl rfl (fun K hK=>?_)
   refine zv _ _ _ _ rfl w1.heap.size 153 _ 3 24 Tryz.underlying36 zbg rfl (by decide) (.slice (some ⟨w1.heap.size+1,0,none⟩) 0 0) 0 [] rfl zil (R+1) w.heap.size A n c (zu es) rfl (hr0.ext (Hx1.out.trans hx3)) (zdg es) (by unfold maxLen;omega) (by omega) hx3.size ?_
   intro v w4 hown4 hg4 hat4
   rw [Nat.zero_add,List.nil_append] at hown4
   obtain⟨A4,c4,rfl⟩:=zg hown4
   have hx4:Ext w1 w4:=hx3.grown hg4 (fun k hk=>by simp [Value.ownBlock] at hk;omega)
   have hb4:Blk w4 w1.heap.size 38 #[.int .i64 0,.int .i64 0,.slice none 0 0]:=hb3.frm (Frm.of_grown hg4) (by simp [Value.ownBlock])
   refine hK.out _ _ hx4 ?_
   refine pT ?_
   refine tQ ?_
   have cE:=hb4.cell
   have fE:=hb4.frozen
   (refine zL rfl rfl rfl rfl (fun K hK=>?_))
   go_simp
   refine hK.out _ _ ?_
   refine zaj ?_
   go_wp2_with fail
   go_meet
   exact zfI h Hx1.out hRl hx4 (zhD hen.out hown4) hb4 (Nat.le_refl _)
 case rest =>
  obtain⟨G,v,rfl,hGw,zim⟩:=hcut
  obtain⟨A1,n1,c1,rfl⟩:=zim.form
  obtain⟨rfl,hsa⟩:=zim.reads
  have hGz:=zim.hG
  have cG:=zim.blk.cell
  have hln:=hsa.2.len
  clear hsa
  have hnL:es.length≤L:=by have:=hen.out;omega
  have HnL:=za hnL
  go_wp2_with fail
  refine (zx (n:=es.length) zim.rd (by omega)).mono ?_
  rintro e w3 ⟨k,rfl,hk1,hk0,hr3,hd3⟩
  replace zim:=zim.drawn hd3 hr3
  clear hd3 hr3 cG
  have Hk:=za hk1
  clear hk1 hk0
  go_wp2_with fail
  refine (zx (n:=30) zim.rd (by omega)).mono ?_
  rintro e w4 ⟨y,rfl,-,-,hr4,hd4⟩
  replace zim:=zim.drawn hd4 hr4
  clear hd4 hr4
  go_upto_block 0 with fail
  go_cut [] (fun wx=>∃ (al st:Int) (v:Value) (fs:List Edg),Acc w w1 wx R G (M+10) al st v fs∧fs.length≤L+1)
  case first =>
   have Hen:=za hln
   clear hln
   have hcases:y=0∨y=1∨y=2∨y=3∨y=4∨y=5∨y=6∨7≤y:=by omega
   rcases hcases with hy|hy|hy|hy|hy|hy|hy|hy
   ·subst hy
    have hy0:True:=trivial
    go_wp2_with fail
    refine (zaL [64,(-1),1,63] 4 #[.int .i64 64,.int .i64 (-1),.int .i64 1,.int .i64 63] rfl rfl (by omega) (by omega) zim.rd (by omega)).mono ?_
    rintro e w5 ⟨x,-,rfl,hr5,hd5⟩
    replace zim:=(zim.ext ((Ext.refl _).alloc _)).drawn hd5 hr5
    have cG:=zim.blk.cell
    have fG:=zim.blk.frozen
    go_wp2_with fail
    go_meet
    exact⟨_,_,_,es,(zim.setAl x).more (by omega),by have:=HnL.out;omega⟩
   ·subst hy
    have hy0:True:=trivial
    go_wp2_with fail
    refine (zaL [0,17,(-1),16,1] 5 #[.int .i64 0,.int .i64 17,.int .i64 (-1),.int .i64 16,.int .i64 1] rfl rfl (by omega) (by omega) zim.rd (by omega)).mono ?_
    rintro e w5 ⟨x,-,rfl,hr5,hd5⟩
    replace zim:=(zim.ext ((Ext.refl _).alloc _)).drawn hd5 hr5
    have cG:=zim.blk.cell
    have fG:=zim.blk.frozen
    go_wp2_with fail
    go_meet
    exact⟨_,_,_,es,(zim.setSt x).more (by omega),by have:=HnL.out;omega⟩
   ·subst hy
    by_cases hn0:0<es.length
    ·have hk:=Hk.out (by omega)
     have hkl:k<es.length:=by omega
     obtain⟨g,rfl⟩:=zfX zim hn0
     have hne0:es.length≠0:=by omega
     have hG1:R<w1.heap.size:=by have:=zim.hR;have:=zim.hB;omega
     have cG:∀ W,Dr R w4 W→∀ q,W.cell? ⟨G,q,none⟩=#[Value.int .i64 al,.int .i64 st,.slice (some ⟨g,0,none⟩) es.length c1][q]?:=fun W hW=>(zim.blk.dr hW (by have:=zim.hG;omega)).cell
     clear hk hne0
     go_wp2_with fail
     refine tR (fun X=>Dr R w4 X) [8] (Ord.of [0,1,2,3,4,5,6,7,8]) ?_
     refine tQ ?_
     (refine zA rfl rfl rfl (fun K hK=>?_);go_simp)
     refine hK.out _ _ ((Dr.refl R w4).drew.alloc _) ?_
     refine pT ?_
     refine tQ ?_
     (refine zA rfl rfl rfl (fun K hK=>?_);go_simp)
     refine (zaL (w:=w4.drew) [(-1),16,0,2] 4 #[.int .i64 (-1),.int .i64 16,.int .i64 0,.int .i64 2] rfl rfl (by omega) (by omega) (zim.rd.ext (Ext.refl _).drew) (by omega)).mono ?_
     rintro e w5 ⟨x,-,rfl,hr5,hd5⟩
     have hd45:Dr R w4 w5:=((Dr.refl R w4).drew.alloc _).trans hd5
     have hacc5:=zim.drawn hd45 hr5
     refine hK.out _ _ hd45 ?_
     refine pT ?_
     refine tQ ?_
     have zil:=hacc5.own
     obtain⟨o0,c0⟩:=zbb zil (k*3) (by omega)
     have f0:=zil.frozenAt (k*3)
     have hst:=hacc5.turn rfl (zdh (List.getElem?_eq_getElem hkl) x).1 (by simp)
     exact yK03a6
    ·have hn1:es.length=0:=by omega
     clear hn0
     go_wp2_with fail
     go_meet
     exact⟨_,_,_,es,zim.more (by omega),by have:=HnL.out;omega⟩
   ·subst hy
    by_cases hn0:0<es.length
    ·have hk:=Hk.out (by omega)
     have hkl:k<es.length:=by omega
     obtain⟨g,rfl⟩:=zfX zim hn0
     have hne0:es.length≠0:=by omega
     have hG1:R<w1.heap.size:=by have:=zim.hR;have:=zim.hB;omega
     have cG:∀ W,Dr R w4 W→∀ q,W.cell? ⟨G,q,none⟩=#[Value.int .i64 al,.int .i64 st,.slice (some ⟨g,0,none⟩) es.length c1][q]?:=fun W hW=>(zim.blk.dr hW (by have:=zim.hG;omega)).cell
     clear hk hne0
     go_wp2_with fail
     refine tR (fun X=>Dr R w4 X) [8] (Ord.of [0,1,2,3,4,5,6,7,8]) ?_
     refine tQ ?_
     (refine zA rfl rfl rfl (fun K hK=>?_);go_simp)
     refine hK.out _ _ ((Dr.refl R w4).drew.alloc _) ?_
     refine pT ?_
     refine tQ ?_
     (refine zA rfl rfl rfl (fun K hK=>?_);go_simp)
     refine (zaL (w:=w4.drew) [(-1),16,0,3] 4 #[.int .i64 (-1),.int .i64 16,.int .i64 0,.int .i64 3] rfl rfl (by omega) (by omega) (zim.rd.ext (Ext.refl _).drew) (by omega)).mono ?_
     rintro e w5 ⟨x,-,rfl,hr5,hd5⟩
     have hd45:Dr R w4 w5:=((Dr.refl R w4).drew.alloc _).trans hd5
     have hacc5:=zim.drawn hd45 hr5
     refine hK.out _ _ hd45 ?_
     refine pT ?_
     refine tQ ?_
     have zil:=hacc5.own
     obtain⟨o0,c0⟩:=zbb zil (k*3+2) (by omega)
     have f0:=zil.frozenAt (k*3+2)
     have hst:=hacc5.turn rfl (zdh (List.getElem?_eq_getElem hkl) x).2.2 (by simp)
     exact yK03a6
    ·have hn1:es.length=0:=by omega
     clear hn0
     go_wp2_with fail
     go_meet
     exact⟨_,_,_,es,zim.more (by omega),by have:=HnL.out;omega⟩
   ·subst hy
    by_cases hn0:0<es.length
    ·have hk:=Hk.out (by omega)
     have hkl:k<es.length:=by omega
     obtain⟨g,rfl⟩:=zfX zim hn0
     have hne0:es.length≠0:=by omega
     have hG1:R<w1.heap.size:=by have:=zim.hR;have:=zim.hB;omega
     have cG:∀ W,Dr R w4 W→∀ q,W.cell? ⟨G,q,none⟩=#[Value.int .i64 al,.int .i64 st,.slice (some ⟨g,0,none⟩) es.length c1][q]?:=fun W hW=>(zim.blk.dr hW (by have:=zim.hG;omega)).cell
     clear hk hne0
     go_wp2_with fail
     refine tR (fun X=>Dr R w4 X) [8] (Ord.of [0,1,2,3,4,5,6,7,8]) ?_
     refine tQ ?_
     (refine zA rfl rfl rfl (fun K hK=>?_);go_simp)
     refine hK.out _ _ ((Dr.refl R w4).drew.alloc _) ?_
     refine pT ?_
     refine tQ ?_
     (refine zA rfl rfl rfl (fun K hK=>?_);go_simp)
     refine (zaL (w:=w4.drew) [(-1),6,70,5,0] 5 #[.int .i64 (-1),.int .i64 6,.int .i64 70,.int .i64 5,.int .i64 0] rfl rfl (by omega) (by omega) (zim.rd.ext (Ext.refl _).drew) (by omega)).mono ?_
     rintro e w5 ⟨x,-,rfl,hr5,hd5⟩
     have hd45:Dr R w4 w5:=((Dr.refl R w4).drew.alloc _).trans hd5
     have hacc5:=zim.drawn hd45 hr5
     refine hK.out _ _ hd45 ?_
     refine pT ?_
     refine tQ ?_
     have zil:=hacc5.own
     obtain⟨o0,c0⟩:=zbb zil (k*3+1) (by omega)
     have f0:=zil.frozenAt (k*3+1)
     have hst:=hacc5.turn rfl (zdh (List.getElem?_eq_getElem hkl) x).2.1 (by simp)
     exact yK03a6
    ·have hn1:es.length=0:=by omega
     clear hn0
     go_wp2_with fail
     go_meet
     exact⟨_,_,_,es,zim.more (by omega),by have:=HnL.out;omega⟩
   ·subst hy
    by_cases hn0:0<es.length
    ·have hk:=Hk.out (by omega)
     have hkl:k<es.length:=by omega
     obtain⟨g,rfl⟩:=zfX zim hn0
     have hne0:es.length≠0:=by omega
     have zil:=zim.own
     have hE:=za (List.getElem?_eq_getElem hkl)
     obtain⟨ed,hed⟩:∃ ed,Hid (es[k]?=some ed):=⟨_,hE.out⟩
     obtain⟨d0,d1,d2⟩:=zcm hed.out
     have cG:∀ W,Ext w4 W→∀ q,W.cell? ⟨G,q,none⟩=#[Value.int .i64 al,.int .i64 st,.slice (some ⟨g,0,none⟩) es.length c1][q]?:=fun W hW=>(zim.blk.ext hW).cell
     have C0:∀ W,Ext w4 W→W.cell? ⟨g,k*3,none⟩=some (.int .i64 ed.fr):=fun W hW=>hW.cell_some (by rw [zil.cellAt _ (by omega)];exact d0)
     have C1:∀ W,Ext w4 W→W.cell? ⟨g,k*3+1,none⟩=some (.int .i64 ed.le):=fun W hW=>hW.cell_some (by rw [zil.cellAt _ (by omega)];exact d1)
     have C2:∀ W,Ext w4 W→W.cell? ⟨g,k*3+2,none⟩=some (.int .i64 ed.ta):=fun W hW=>hW.cell_some (by rw [zil.cellAt _ (by omega)];exact d2)
     clear hk hne0 d0 d1 d2
     go_wp2_with fail
     refine tR (fun X=>Ext w4 X) [8,10] (Ord.of [0,1,2,3,4,5,6,7,8,9,10]) ?_
     refine tQ ?_
     (refine zA rfl rfl rfl (fun K hK=>?_);go_simp)
     refine hK.out _ _ ((Ext.refl _).drew.alloc _) ?_
     refine pT ?_
     (refine zL rfl rfl rfl rfl (fun K hK=>?_))
     refine zaG w1 w4.drew _ _ _ rfl 153 _ 3 24 Tryz.underlying36 zbg rfl (by decide) (.slice (some ⟨g,0,none⟩) es.length c1) es.length (zu es) _ _ rfl rfl zim.fr.size zil rfl (by simp [Value.oneCell']) (by unfold maxLen;omega) (by omega) ?_
     intro g5 cap5 w5 ziy hg5 hat5 hlt5
     refine hK.out _ _ ?_
     refine pT ?_
     refine tQ ?_
     obtain⟨h1,h2,h3⟩:=(zim.ext ((Ext.refl _).drew)).push (e:=ed) (W':=w5) ziy hg5 hat5
     exact yK03a5
    ·have hn1:es.length=0:=by omega
     clear hn0
     go_wp2_with fail
     go_meet
     exact⟨_,_,_,es,zim.more (by omega),by have:=HnL.out;omega⟩
   ·subst hy
    have hG1:R<w1.heap.size:=by have:=zim.hR;have:=zim.hB;omega
    have cG:∀ W,Dr R w4 W→∀ q,W.cell? ⟨G,q,none⟩=#[Value.int .i64 al,.int .i64 st,.slice A1 es.length c1][q]?:=fun W hW=>(zim.blk.dr hW (by have:=zim.hG;omega)).cell
    go_wp2_with fail
    refine tR (fun X=>Dr R w4 X) [10,12] (Ord.of [0,1,2,4,6,3,5,7,8,9,10,11,12]) ?_
    refine tQ ?_
    (refine zA rfl rfl rfl (fun K hK=>?_);go_simp)
    refine (zx (n:=4) (zim.rd.ext (Ext.refl _).drew) (by omega)).mono ?_
    rintro e w5 ⟨x,rfl,-,-,hr5,hd5⟩
    replace hd5:=((Dr.refl R w4).drew).trans hd5
    refine hK.out _ _ hd5 ?_
    refine pT ?_
    refine tQ ?_
    (refine zA rfl rfl rfl (fun K hK=>?_);go_simp)
    refine (zx (n:=3) hr5 (by omega)).mono ?_
    rintro e w6 ⟨z,rfl,-,-,hr6,hd6⟩
    replace hd6:=hd5.trans hd6
    refine hK.out _ _ hd6 ?_
    refine pT ?_
    refine tQ ?_
    (refine zA rfl rfl rfl (fun K hK=>?_);go_simp)
    refine (zx (n:=4) hr6 (by omega)).mono ?_
    rintro e w7 ⟨u,rfl,-,-,hr7,hd7⟩
    replace hd7:=hd6.trans hd7
    refine hK.out _ _ hd7 ?_
    have hacc7:=zim.drawn hd7 hr7
    refine pT ?_
    refine tQ ?_
    (refine zA rfl rfl rfl (fun K hK=>?_);go_simp)
    refine hK.out _ _ (hd7.alloc _) ?_
    refine pT ?_
    (refine zL rfl rfl rfl rfl (fun K hK=>?_))
    refine zaG w1 w7 _ _ _ rfl 153 _ 3 24 Tryz.underlying36 zbg rfl (by decide) (.slice A1 es.length c1) es.length (zu es) _ _ rfl rfl hacc7.fr.size hacc7.own rfl (by simp [Value.oneCell']) (by unfold maxLen;have:=HnL.out;omega) (by have:=HnL.out;omega) ?_
    intro g8 cap8 w8 hown8 hg8 hat8 hlt8
    refine hK.out _ _ ?_
    refine pT ?_
    refine tQ ?_
    obtain⟨h1,h2,h3⟩:=hacc7.push (e:=⟨x,z,u⟩) (W':=w8) hown8 hg8 hat8
    exact yK03a5
   ·have h0:((y:Int)==0)=false:=by simp;omega
    have h1:((y:Int)==1)=false:=by simp;omega
    have h2:((y:Int)==2)=false:=by simp;omega
    have h3:((y:Int)==3)=false:=by simp;omega
    have h4:((y:Int)==4)=false:=by simp;omega
    have h5:((y:Int)==5)=false:=by simp;omega
    have h6:((y:Int)==6)=false:=by simp;omega
    clear hy
    go_wp2_with fail
    go_meet
    exact⟨_,_,_,es,zim.more (by omega),by have:=HnL.out;omega⟩
  case rest =>
   clear zim
   obtain⟨al',st',v',fs,zim,hlen⟩:=hcut
   obtain⟨A',n',c',rfl⟩:=zim.form
   obtain⟨rfl,_⟩:=zim.reads
   have cG:=zim.blk.cell
   have bz2:=HbZ.out.frm zim.fr (by omega)
   have cz:=bz2.cell
   have hzz:=HbZ.out.lt
   have fz:=bz2.frozen
   obtain⟨f1,f2,f3⟩:=zim.fin (Z:=w.heap.size+1) (by omega) (by omega) (.int .i64 al') (.int .i64 st') (.slice A' fs.length c')
   have Hfin:=za (show RetA R (M+10) (L+1) w (.returned (.agg #[.int .i64 al',.int .i64 st',.slice A' fs.length c'])) _ from ⟨⟨al',st',fs⟩,A',fs.length,c',rfl,f1,⟨hlen,zhM zim.own⟩,f2,f3⟩)
   clear f1 f2 f3
   go_wp2_with fail
   exact bodyPost_ret (v:=.agg #[.int .i64 al',.int .i64 st',.slice A' fs.length c']) (by simp [results,Tryz.results180,go_sem,cz]) rfl Hfin.out
def lenAt (W:World) (G:Nat):Nat:=match W.cell? ⟨G,1,none⟩ with|some (.slice _ n _)=>n|_=>0
theorem zbt.lenAt {w0 W:World} {R G M n c:Nat} {A:Option Addr} {al:Int} {vA:Value} {rows:List Value} {ls:List (List Int)} {acc:List Bool}(h:zbt w0 W R G M al (.slice A n c) rows ls vA acc):Go.Proofs.YtmjaepibdpfblaaGreatDoor.lenAt W G=n:=by
 unfold Go.Proofs.YtmjaepibdpfblaaGreatDoor.lenAt
 rw [h.blk.cell 1]
 rfl
theorem yK03a7 {P:Prop}(h:P:=by
 have hn1:m=0:=by omega
 clear hn0
 have cG:=zim.blk.cell
 go_wp2_with fail
 go_meet
 exact⟨_,_,_,_,_,_,zim.more (by omega),za (Hb.out.more (by omega))⟩
 ):P:=h
theorem zbD {R M L:Nat} {A:Option Addr} {n c:Nat} {A':Option Addr} {n' c':Nat} {b:Aut} {w:World}(h:Rd w R M)(hM:M≤900000000)(ho:zZ w (R+1) A n c A' n' c' b)(hb:BdA L b)(hL:L≤100) :
  Calls Tryz.prog 175 #[.pointer (some ⟨R,0,none⟩),.agg #[.int .i64 b.al,.slice A n c,.slice A' n' c']] w (zfK R (M+10) (BdA (L+13)) w):=by
 have hRl:=h.lt
 have hsz:=hb.size (by omega)
 go_enter Tryz.func175,Tryz.ntmps175
 have hx0:=(Ext.refl w).alloc (.cells #[.int .i64 b.al,.slice A n c,.slice A' n' c'] 31)
 have b0:=Blk.new w 31 #[.int .i64 b.al,.slice A n c,.slice A' n' c']
 have hs0:(w.alloc (.cells #[.int .i64 b.al,.slice A n c,.slice A' n' c'] 31)).heap.size=w.heap.size+1:=by simp
 have hx1:=hx0.alloc (.cells #[.int .i64 0,.slice none 0 0,.slice none 0 0] 31)
 have bz:=Blk.new (w.alloc (.cells #[.int .i64 b.al,.slice A n c,.slice A' n' c'] 31)) 31 #[.int .i64 0,.slice none 0 0,.slice none 0 0]
 replace b0:=b0.ext ((Ext.refl _).alloc (.cells #[.int .i64 0,.slice none 0 0,.slice none 0 0] 31))
 rw [hs0] at bz
 have c0:=b0.cell
 go_upto_region 1 with fail
 generalize (w.alloc (.cells #[.int .i64 b.al,.slice A n c,.slice A' n' c'] 31)).alloc (.cells #[.int .i64 0,.slice none 0 0,.slice none 0 0] 31)=w1 at *
 have hz1:=bz.lt
 go_wp2_with fail
 refine (zas (ho.ext hx1).reads hsz).mono ?_
 rintro e w2 ⟨B,m,d,B',m',d',rfl,zil,hx2⟩
 obtain⟨rows,zim⟩:=zbt.of (R:=R) (M:=M) zil (h.ext (hx1.trans hx2)) hx2.dr (by omega)
 have hG:=hx2.size
 have hm:m=b.next.length:=zil.2.1
 have hmL:m≤100:=by have:=hb.1;omega
 have Hm:=za hm
 have Hb:=za hb
 clear zil ho hm hb hsz
 go_upto_region 2 with fail
 generalize w2.alloc (.cells #[.int .i64 b.al,.slice B m d,.slice B' m' d'] 31)=w3 at *
 generalize w2.heap.size=G at *
 have cG:=zim.blk.cell
 go_wp2_with fail
 refine (zx zim.rd (by omega)).mono ?_
 rintro e w4 ⟨k,rfl,hk1,-,hr4,hd4⟩
 replace zim:=zim.drawn hd4 hr4
 have Hk:=za hk1
 clear hd4 hr4 cG hk1
 go_wp2_with fail
 refine (zx zim.rd (by omega)).mono ?_
 rintro e w5 ⟨y,rfl,-,-,hr5,hd5⟩
 replace zim:=zim.drawn hd5 hr5
 clear hd5 hr5
 go_upto_block 0 with fail
 go_cut [] (fun wx=>∃ (al:Int) (v:Value) (rows:List Value) (ls:List (List Int)) (vA:Value) (acc:List Bool),zbt w1 wx R G (M+10) al v rows ls vA acc∧Hid (BdL (L+13) ls acc))
 case first =>
  have hcases:y=0∨y=1∨y=2∨y=3∨y=4∨y=5∨6≤y:=by omega
  rcases hcases with hy|hy|hy|hy|hy|hy|hy
  ·subst hy
   have hy0:True:=trivial
   go_wp2_with fail
   refine (zaL [64,(-1),1,63,0] 5 #[.int .i64 64,.int .i64 (-1),.int .i64 1,.int .i64 63,.int .i64 0] rfl rfl (by omega) (by omega) zim.rd (by omega)).mono ?_
   rintro e w6 ⟨x,-,rfl,hr6,hd6⟩
   replace zim:=(zim.ext ((Ext.refl _).alloc _)).drawn hd6 hr6
   have cG:=zim.blk.cell
   have fG:=zim.blk.frozen
   go_wp2_with fail
   go_meet
   exact⟨_,_,_,_,_,_,(zim.setAl x).more (by omega),za (Hb.out.more (by omega))⟩
  ·subst hy
   have hy0:True:=trivial
   have cG:=zim.blk.cell
   have hs1:=zim.dr.size
   have hal:b.acc.length≤100:=by have:=Hb.out.2.1;omega
   go_wp2_with (at_builtin;refine zX w1 w5 rfl _ _ _ rfl 4 _ 1 1 Tryz.underlying26 zaX rfl (by decide) (.slice B' m' d') b.acc.length (zaB b.acc) _ _ rfl rfl hs1 zim.acc rfl (by simp [Value.oneCell']) (by unfold maxLen;omega) (by omega) ?_;intro g6 cap6 w6 hown6 hg6 hat6 hlt6;obtain⟨q1,q2,q3⟩:=zim.pushAcc (x:=true) hown6 hg6 hat6;have q1':=q1.out)
   go_meet
   exact⟨_,_,_,_,_,_,q3.more (by omega),za ⟨by have:=Hb.out.1;omega,by have:=Hb.out.2.1;simp;omega,fun l hl=>by have:=Hb.out.2.2 l hl;omega⟩⟩
  ·subst hy
   have hy0:True:=trivial
   by_cases hn0:0<m
   ·have hk:=Hk.out (by omega)
    have hkm:k<b.next.length:=by have:=Hm.out;omega
    obtain⟨l,hl⟩:∃ l,b.next[k]?=some l:=⟨_,List.getElem?_eq_getElem hkm⟩
    obtain⟨gN,rfl,hgN,-⟩:=zae (show w5.ownsRow w1.heap.size 137 1 (.slice B m d) m rows from by have:=zim.nx;rw [← Hm.out] at this;exact this) hn0
    obtain⟨Ar,cr,hr,hcell,hor⟩:=zim.row hl Hm.out
    have hll:l.length≤100:=by have:=Hb.out.2.2 l (List.mem_of_getElem? hl);omega
    have HL:=za hl
    have HR:=za hr
    have hs1:=zim.dr.size
    have cG:∀ W,Frm (fun b=>(Value.slice Ar l.length cr).ownBlock=some b) w5 W→∀ q,W.cell? ⟨G,q,none⟩=#[Value.int .i64 b.al,.slice (some ⟨gN,0,none⟩) m d,.slice B' m' d'][q]?:=fun W hW=>(zim.blk.frm hW (fun e=>zq hor zim.blk (by decide) e rfl)).cell
    have cN:∀ W,Frm (fun b=>(Value.slice Ar l.length cr).ownBlock=some b) w5 W→W.cell? ⟨gN,k,none⟩=some (.slice Ar l.length cr):=fun W hW=>by
     have hx:W.ownsRow w1.heap.size 137 1 (.slice (some ⟨gN,0,none⟩) m d) b.next.length rows:=zf zim.nx hW (fun b hb hS=>zaS zim.nx hor (by decide) hb hS)
     rw [← Hm.out] at hx
     rw [hx.cellAt k (by omega),HR.out]
    have h00:Frm (fun b=>(Value.slice Ar l.length cr).ownBlock=some b) w5 w5.drew:=(Ext.refl w5).drew.toFrm
    clear hl hr hcell hkm
    go_wp2_with fail
    refine tR (fun X=>Frm (fun b=>(Value.slice Ar l.length cr).ownBlock=some b) w5 X) [11] (Ord.of [0,1,2,3,4,5,6,7,8,9,10,11]) ?_
    refine tQ ?_
    (refine zA rfl rfl rfl (fun K hK=>?_);go_simp)
    have hxd:=(Ext.refl w5).drew
    refine hK.out _ _ (hxd.alloc _).toFrm ?_
    refine pT ?_
    refine zA rfl rfl rfl (fun K hK=>?_)
    refine zaG w1 w5.drew _ _ _ rfl 3 _ 1 8 Tryz.underlying137 zY rfl (by decide) (.slice Ar l.length cr) l.length (ints l) _ _ rfl rfl hs1 (zh hor hxd) rfl (by simp [Value.oneCell']) (by unfold maxLen;omega) (by omega) ?_
    intro g6 cap6 w6 hown6 hg6 hat6 hlt6
    obtain⟨q1,q2,q3,q4⟩:=(zim.ext hxd).growRow (x:=0) Hm.out HR.out HL.out hown6 hg6 hat6
    have q2':=q2.out
    refine hK.out _ _ (hxd.toFrm.trans (Frm.of_grown hg6)) ?_
    refine pT ?_
    refine tQ ?_
    (refine zL rfl rfl rfl rfl (fun K hK=>?_))
    go_simp
    refine hK.out _ _ ?_
    refine zaj ?_
    go_wp2_with fail
    go_meet
    refine⟨_,_,_,_,_,_,q4.more (by omega),za ⟨by have:=Hb.out.1;rw [List.length_set];omega,by have:=Hb.out.2.1;omega,fun l' hl'=>?_⟩⟩
    rcases List.mem_or_eq_of_mem_set hl' with h1|h1
    ·have:=Hb.out.2.2 l' h1;omega
    ·have:=Hb.out.2.2 l (List.mem_of_getElem? HL.out)
     rw [h1];simp;omega
   ·exact yK03a7
  ·subst hy
   have hy0:True:=trivial
   by_cases hn0:0<m
   ·have hk:=Hk.out (by omega)
    have hkm:k<b.next.length:=by have:=Hm.out;omega
    obtain⟨l,hl⟩:∃ l,b.next[k]?=some l:=⟨_,List.getElem?_eq_getElem hkm⟩
    obtain⟨gN,rfl,hgN,-⟩:=zae (show w5.ownsRow w1.heap.size 137 1 (.slice B m d) m rows from by have:=zim.nx;rw [← Hm.out] at this;exact this) hn0
    obtain⟨Ar,cr,hr,hcell,hor⟩:=zim.row hl Hm.out
    have hll:l.length≤100:=by have:=Hb.out.2.2 l (List.mem_of_getElem? hl);omega
    have HL:=za hl
    have HR:=za hr
    have Hbl:=za (Hb.out.2.2 l (List.mem_of_getElem? hl))
    clear hl hr hkm
    have cG:=zim.blk.cell
    by_cases hl0:0<l.length
    ·obtain⟨gr,rfl,-,-⟩:=zae hor hl0
     go_wp2_with fail
     refine (zx (n:=l.length) zim.rd (by omega)).mono ?_
     rintro e w6 ⟨j,rfl,hj1,-,hr6,hd6⟩
     have hjl:=hj1 (by omega)
     replace zim:=zim.drawn hd6 hr6
     have hRG:=zim.hR
     have cN:∀ W,Dr R w6 W→W.cell? ⟨gN,k,none⟩=some (.slice (some ⟨gr,0,none⟩) l.length cr):=fun W hW=>(hd6.trans hW).cell_some hcell (by simp;omega)
     have hwr:IntKind.i64.wrap ((m:Int) - 1)=(m:Int) - 1:=by rw [IntKind.wrap_i64];omega
     clear cG hj1 hr6 hd6 hcell hor
     have cG:∀ W,Dr R w6 W→∀ q,W.cell? ⟨G,q,none⟩=#[Value.int .i64 b.al,.slice (some ⟨gN,0,none⟩) m d,.slice B' m' d'][q]?:=fun W hW=>(zim.blk.dr hW (by have:=zim.hG;omega)).cell
     go_wp2_with fail
     refine tR (fun X=>Dr R w6 X) [13] (Ord.of [0,1,2,3,4,5,6,7,8,9,10,11,12,13]) ?_
     refine tQ ?_
     (refine zA rfl rfl rfl (fun K hK=>?_);go_simp)
     refine hK.out _ _ ((Dr.refl R w6).drew.alloc _) ?_
     refine pT ?_
     (refine zA rfl rfl rfl (fun K hK=>?_);go_simp)
     refine (zaL (w:=w6.drew) [(-1),m,(m:Int) - 1,0] 4 #[.int .i64 (-1),.int .i64 m,.int .i64 ((m:Int) - 1),.int .i64 0] rfl rfl (by omega) (by omega) (zim.rd.ext (Ext.refl _).drew) (by omega)).mono ?_
     rintro e w7 ⟨x,-,rfl,hr7,hd7⟩
     have hd67:Dr R w6 w7:=((Dr.refl R w6).drew.alloc _).trans hd7
     have hacc7:=zim.drawn hd67 hr7
     refine hK.out _ _ hd67 ?_
     refine pT ?_
     refine tQ ?_
     have zil:=hacc7.rows.2.1 k _ l HR.out HL.out
     obtain⟨o0,c0⟩:=zbb zil j (by omega)
     have f0:=zil.frozenAt j
     have hst:=hacc7.setRow (k:=j) (x:=x) HR.out HL.out rfl
     (refine zL rfl rfl rfl rfl (fun K hK=>?_))
     go_simp
     refine hK.out _ _ ?_
     refine zaj ?_
     go_wp2_with fail
     go_meet
     refine⟨_,_,_,_,_,_,hst.more (by omega),za ⟨by have:=Hb.out.1;rw [List.length_set];omega,by have:=Hb.out.2.1;omega,fun l' hl'=>?_⟩⟩
     rcases List.mem_or_eq_of_mem_set hl' with h1|h1
     ·have:=Hb.out.2.2 l' h1;omega
     ·rw [h1];simp;have:=Hbl.out;omega
    ·have hl1:l.length=0:=by omega
     have hl2:¬ ((l.length:Int)>0):=by omega
     go_wp2_with fail
     go_meet
     exact⟨_,_,_,_,_,_,zim.more (by omega),za (Hb.out.more (by omega))⟩
   ·exact yK03a7
  ·subst hy
   have hy0:True:=trivial
   have hs1:=zim.dr.size
   have hacc1:=zim.ext ((Ext.refl w5).alloc (.cells #[] 137))
   have hn1:=World.ownsRow_lit (base:=w1.heap.size) (e:=137) (size:=1) w5 #[] 0 hs1 (by unfold maxLen;omega) rfl
   have cG:=hacc1.blk.cell
   have fG:=hacc1.blk.frozen
   go_upto_region 18 with fail
   replace hacc1:=hacc1.setNext hn1
   clear zim cG fG hn1
   generalize (w5.alloc (.cells #[] 137)).setCell ⟨G,1,none⟩ (.slice (some ⟨w5.heap.size,0,none⟩) 0 0)=w6 at *
   have hs6:=hacc1.dr.size
   have hacc2:=hacc1.ext ((Ext.refl w6).alloc (.cells #[] 4))
   have hn2:=World.ownsRow_lit (base:=w1.heap.size) (e:=4) (size:=1) w6 #[] 0 hs6 (by unfold maxLen;omega) rfl
   have cG:=hacc2.blk.cell
   have fG:=hacc2.blk.frozen
   go_wp2_with fail
   go_meet
   exact⟨_,_,_,_,_,_,(hacc2.setMarks hn2).more (by omega),za ⟨by simp,by simp,fun l hl=>by simp at hl⟩⟩
  ·subst hy
   have hy0:True:=trivial
   by_cases hn0:0<m
   ·have hn0':((m:Int)>0):=by omega
    have hml:m=b.next.length:=Hm.out
    have hlm:m≤L:=by have:=Hb.out.1;omega
    have hst:∃ (i:Nat) (v:Value) (rows:List Value) (ls:List (List Int)) (vA:Value) (acc:List Bool),i≤13∧zbt w1 w5 R G (M+2) b.al v rows ls vA acc∧Hid (ls.length=m+i)∧Hid (i=0∨m+i≤13)∧Hid (acc.length≤L+i)∧Hid (∀ l∈ls,l.length≤L):=
     ⟨0,_,_,_,_,_,by omega,zim,za hml.symm,za (.inl rfl),za Hb.out.2.1,za Hb.out.2.2⟩
    clear hml zim
    go_wp2_with fail
    go_loopw [] (fun wr=>∃ (i:Nat) (v:Value) (rows:List Value) (ls:List (List Int)) (vA:Value) (acc:List Bool),i≤13∧zbt w1 wr R G (M+2) b.al v rows ls vA acc∧Hid (ls.length=m+i)∧Hid (i=0∨m+i≤13)∧Hid (acc.length≤L+i)∧Hid (∀ l∈ls,l.length≤L)) (fun wr=>200 - lenAt wr G)
    case atStart=>exact hst
    case round =>
     clear hst
     obtain⟨i,v,rows,ls,vA,acc,hi,zim,hln,him,hal,hlL⟩:=hrel
     obtain⟨gN,cN,rfl,hgN⟩:∃ g c,v=.slice (some ⟨g,0,none⟩) (m+i) c∧w1.heap.size≤g:=by
      obtain⟨A9,c9,rfl⟩:=zg zim.nx
      obtain⟨g,rfl,hg,-⟩:=zae zim.nx (by have:=hln.out;omega)
      exact⟨g,c9,by rw [hln.out],hg⟩
     have hmes:=za zim.lenAt
     by_cases hlt:m+i≤12
     ·have hlt':((m+i:Nat):Int)≤12:=by omega
      have h0l:0<ls.length:=by have:=hln.out;omega
      obtain⟨l,hl⟩:∃ l,ls[0]?=some l:=⟨_,List.getElem?_eq_getElem h0l⟩
      obtain⟨Ar,cr,hr,hcell,hor⟩:=zim.row hl hln.out.symm
      have hll:l.length≤L:=hlL.out l (List.mem_of_getElem? hl)
      have Hll:=za hll
      have hlow:=za zim.low
      have hs1:=zim.dr.size
      have hrdl:=Reads.of_own hor
      have Hrd:=za (fun W (hW:Ext wr W)=>hrdl.ext hW)
      have cG:∀ W,Ext wr W→∀ q,W.cell? ⟨G,q,none⟩=#[Value.int .i64 b.al,.slice (some ⟨gN,0,none⟩) (m+i) cN,vA][q]?:=fun W hW=>(zim.blk.ext hW).cell
      have cNx:∀ W,Ext wr W→W.cell? ⟨gN,0,none⟩=some (.slice Ar l.length cr):=fun W hW=>hW.cell_some hcell
      have hww:=Ext.refl wr
      have h0i:(0:Int)<((m+i:Nat):Int):=by omega
      have h0j:0<(m:Int)+(i:Int):=by omega
      clear hl hr hcell hor hrdl h0l
      go_upto_region 21 with fail
      refine uR (fun X=>Ext wr X) [9,11] (zw.of [0,1,3,4,5,6,2,7,8,9,10,11]) ?_
      refine uQ ?_
      have hx0:Ext wr wr.drew:=hww.drew
      generalize wr.drew=wd at *
      (refine zd rfl rfl rfl (fun K hK=>?_);go_simp)
      have hm:=World.ownsRow_made (base:=wr.heap.size) (e:=3) (size:=1) wd #[] 0 hx0.size (Nat.zero_le _) rfl
      have hx1:=(Ext.refl wd).alloc (.cells #[] 3)
      replace hx0:=hx0.trans hx1
      refine hK.out _ _ hx0 ?_
      generalize wd.alloc (.cells #[] 3)=wm at *
      generalize wd.heap.size=MM at *
      refine pT ?_
      refine uQ ?_
      refine zd rfl rfl rfl (fun K hK=>?_)
      refine zv wm _ _ 137 rfl wr.heap.size 3 _ 1 8 Tryz.underlying137 zY rfl (by decide) (.slice (some ⟨MM,0,none⟩) 0 0) 0 [] rfl hm _ _ Ar l.length cr (ints l) rfl (Hrd.out _ hx0) (zfZ _) (by unfold maxLen;omega) (by omega) hx0.size ?_
      intro vR w6 hrow hgR hatR
      rw [Nat.zero_add,List.nil_append] at hrow
      obtain⟨BR,dR,rfl⟩:=zg hrow
      have hww3:Ext wr w6:=hx0.grown hgR (fun k hk=>(hm.lt k hk).1)
      refine hK.out _ _ hww3 ?_
      refine pT ?_
      refine uQ ?_
      (refine zd rfl rfl rfl (fun K hK=>?_);go_simp)
      refine hK.out _ _ (hww3.alloc _) ?_
      refine pT ?_
      (refine zb rfl rfl rfl rfl (fun K hK=>?_))
      have hacc6:=zim.ext hww3
      have hnx6:=hacc6.nx
      rw [hln.out] at hnx6
      refine zaG w1 w6 _ _ _ rfl 137 _ 1 24 Tryz.underlying25 zbJ rfl (by decide) (.slice (some ⟨gN,0,none⟩) (m+i) cN) (m+i) rows _ _ rfl rfl hacc6.dr.size hnx6 rfl (zaJ _ _ _) (by unfold maxLen;omega) (by omega) ?_
      intro g7 cap7 w7 hown7 hg7 hat7 hlt7
      refine hK.out _ _ ?_
      refine pT ?_
      refine uQ ?_
      obtain⟨p1,p2,p3⟩:=hacc6.pushRow (l:=l) (W':=w7) (g:=g7) (cap:=cap7) hlow.out hs1 hrow (by rw [hln.out];exact hown7) hg7 hat7
      have p1':=p1.out
      rw [hln.out] at p3
      (refine zb rfl rfl rfl rfl (fun K hK=>?_))
      go_simp
      refine hK.out _ _ ?_
      refine ze ?_
      generalize w7.setCell ⟨G,1,none⟩ (.slice (some ⟨g7,0,none⟩) (m+i+1) cap7)=w8 at *
      have cG8:=p3.blk.cell
      have hs8:=p3.dr.size
      have hal':=hal.out
      clear p1 p1' p2 cG cNx hown7 hg7 hat7 hacc6 zim hnx6
      go_wp2_with (at_builtin;refine zX w1 w8 rfl _ _ _ rfl 4 _ 1 1 Tryz.underlying26 zaX rfl (by decide) vA acc.length (zaB acc) _ _ rfl rfl hs8 p3.acc rfl (by simp [Value.oneCell']) (by unfold maxLen;omega) (by omega) ?_;intro g9 cap9 w9 hown9 hg9 hat9 hlt9;obtain⟨q1,q2,q3⟩:=p3.pushAcc (x:=false) hown9 hg9 hat9;have q1':=q1.out)
      go_roundw
      case rel=>exact⟨i+1,by omega,_,_,ls++[l],_,acc++[false],q3,za (by have:=hln.out;simp;omega),za (by omega),za (by simp;omega),za (fun l' hl'=>by
       rcases List.mem_append.1 hl' with h1|h1
       ·exact hlL.out l' h1
       ·rw [List.mem_singleton.1 h1];exact Hll.out)⟩
      case measure=>have h1:=q3.lenAt;have h2:=hmes.out;omega
     ·have hlt':¬ (((m+i:Nat):Int)≤12):=by omega
      have cG:=zim.blk.cell
      go_wp2_with fail
      go_meet
      exact⟨_,_,_,_,_,_,zim.more (by omega),za ⟨by have:=hln.out;have:=him.out;omega,by have:=hal.out;omega,fun l' hl'=>by have:=hlL.out l' hl';omega⟩⟩
   ·have hn1:m=0:=by omega
    clear hn0
    have cG:=zim.blk.cell
    have hst:=zim
    clear zim
    go_wp2_with fail
    go_loopw [] (fun wr=>zbt w1 wr R G (M+1+1) b.al (.slice B m d) rows b.next (.slice B' m' d') b.acc) (fun wr=>0)
    case atStart=>exact hst
    case round =>
     clear hst cG
     have cG:=hrel.blk.cell
     go_wp2_with fail
     go_meet
     exact⟨_,_,_,_,_,_,hrel.more (by omega),za (Hb.out.more (by omega))⟩
  ·have h0':((y:Int)==0)=false:=by simp;omega
   have h1':((y:Int)==1)=false:=by simp;omega
   have h2':((y:Int)==2)=false:=by simp;omega
   have h3':((y:Int)==3)=false:=by simp;omega
   have h4':((y:Int)==4)=false:=by simp;omega
   have h5':((y:Int)==5)=false:=by simp;omega
   go_wp2_with fail
   go_meet
   exact⟨_,_,_,_,_,_,zim.more (by omega),za (Hb.out.more (by omega))⟩
 case rest =>
  clear zim
  obtain⟨al,v,rows,ls,vA,acc,zim,hbd⟩:=hcut
  obtain⟨A5,c5,rfl⟩:=zg zim.nx
  obtain⟨B5,d5,rfl⟩:=zg zim.acc
  obtain⟨f1,f2⟩:=zim.fin (N:=M+10) (sh:=BdA (L+13)) hx1 bz rfl hRl (by omega) hz1 (by omega) hbd.out
  have bz5:=bz.dr zim.dr (by omega)
  have cG:=zim.blk.cell
  have cZ:=bz5.cell
  have fZ:=bz5.frozen
  go_wp2_with fail
  have cf:=f2.cell
  exact bodyPost_ret (v:=.agg #[.int .i64 al,.slice A5 ls.length c5,.slice B5 acc.length d5]) (by simp [results,Tryz.results175,go_sem,cf]) rfl f1.out
theorem zfj {R M L:Nat} {A:Option Addr} {n c:Nat} {A':Option Addr} {n' c':Nat} {b:Aut} {w:World}(h:Rd w R M)(hM:M≤900000000)(ho:zZ w (R+1) A n c A' n' c' b)(hb:BdA L b)(hL:L≤100) :
  Calls Tryz.prog 174 #[.pointer (some ⟨R,0,none⟩),.agg #[.int .i64 b.al,.slice A n c,.slice A' n' c']] w (zfK R (M+10) (BdA (L+1)) w):=by
 have hRl:=h.lt
 have hsz:=hb.size (by omega)
 go_enter Tryz.func174,Tryz.ntmps174
 have hx0:=(Ext.refl w).alloc (.cells #[.int .i64 b.al,.slice A n c,.slice A' n' c'] 31)
 have b0:=Blk.new w 31 #[.int .i64 b.al,.slice A n c,.slice A' n' c']
 have hs0:(w.alloc (.cells #[.int .i64 b.al,.slice A n c,.slice A' n' c'] 31)).heap.size=w.heap.size+1:=by simp
 have hx1:=hx0.alloc (.cells #[.int .i64 0,.slice none 0 0,.slice none 0 0] 31)
 have bz:=Blk.new (w.alloc (.cells #[.int .i64 b.al,.slice A n c,.slice A' n' c'] 31)) 31 #[.int .i64 0,.slice none 0 0,.slice none 0 0]
 replace b0:=b0.ext ((Ext.refl _).alloc (.cells #[.int .i64 0,.slice none 0 0,.slice none 0 0] 31))
 rw [hs0] at bz
 have c0:=b0.cell
 go_upto_region 1 with fail
 generalize (w.alloc (.cells #[.int .i64 b.al,.slice A n c,.slice A' n' c'] 31)).alloc (.cells #[.int .i64 0,.slice none 0 0,.slice none 0 0] 31)=w1 at *
 have hz1:=bz.lt
 go_wp2_with fail
 refine (zas (ho.ext hx1).reads hsz).mono ?_
 rintro e w2 ⟨B,m,d,B',m',d',rfl,zil,hx2⟩
 obtain⟨rows,zim⟩:=zbt.of (R:=R) (M:=M) zil (h.ext (hx1.trans hx2)) hx2.dr (by omega)
 have hG:=hx2.size
 have hm:m=b.next.length:=zil.2.1
 have hm':m'=b.acc.length:=zil.2.2.2
 have hmL:m≤100:=by have:=hb.1;omega
 have Hm:=za hm
 have Hb:=za hb
 subst hm'
 clear zil ho hm hb hsz
 go_upto_region 2 with fail
 generalize w2.alloc (.cells #[.int .i64 b.al,.slice B m d,.slice B' b.acc.length d'] 31)=w3 at *
 generalize w2.heap.size=G at *
 have cG:=zim.blk.cell
 by_cases hm0:m=0
 ·subst hm0
  have zio:=zim
  rw [show (Value.slice B' b.acc.length d')=Value.slice B' b.acc.length d' from rfl] at zio
  obtain⟨f1,f2⟩:=zio.fin (N:=M+10) (sh:=BdA (L+1)) hx1 bz rfl hRl (by omega) hz1 (by omega) (Hb.out.more (by omega))
  have bz5:=bz.dr zim.dr (by omega)
  have cZ:=bz5.cell
  have fZ:=bz5.frozen
  clear zio
  go_wp2_with fail
  have cf:=f2.cell
  exact bodyPost_ret (v:=.agg #[.int .i64 b.al,.slice B 0 d,.slice B' b.acc.length d']) (by simp [results,Tryz.results174,go_sem,cf]) rfl f1.out
 have hm1:((m:Int)==0)=false:=by simp;omega
 go_wp2_with fail
 refine (zx zim.rd (by omega)).mono ?_
 rintro e w4 ⟨k,rfl,hk1,-,hr4,hd4⟩
 replace zim:=zim.drawn hd4 hr4
 have hkm:k<m:=by have:=hk1 (by omega);omega
 clear hd4 hr4 cG hk1 hm1
 go_wp2_with fail
 refine (zx zim.rd (by omega)).mono ?_
 rintro e w5 ⟨y,rfl,-,-,hr5,hd5⟩
 replace zim:=zim.drawn hd5 hr5
 clear hd5 hr5
 go_upto_block 0 with fail
 go_cut [] (fun wx=>∃ (v:Value) (rows:List Value) (ls:List (List Int)) (vA:Value) (acc:List Bool),zbt w1 wx R G (M+10) b.al v rows ls vA acc∧Hid (BdL (L+1) ls acc))
 case first =>
  have hkb:k<b.next.length:=by have:=Hm.out;omega
  obtain⟨l,hl⟩:∃ l,b.next[k]?=some l:=⟨_,List.getElem?_eq_getElem hkb⟩
  obtain⟨gN,rfl,hgN,-⟩:=zae (show w5.ownsRow w1.heap.size 137 1 (.slice B m d) m rows from by have:=zim.nx;rw [← Hm.out] at this;exact this) (by omega)
  obtain⟨Ar,cr,hr,hcell,hor⟩:=zim.row hl Hm.out
  have hll:l.length≤100:=by have:=Hb.out.2.2 l (List.mem_of_getElem? hl);omega
  have HL:=za hl
  have HR:=za hr
  have Hbl:=za (Hb.out.2.2 l (List.mem_of_getElem? hl))
  have hs1:=zim.dr.size
  clear hl hr hkb
  have hcases:y=0∨y=1∨y=2∨3≤y:=by omega
  rcases hcases with hy|hy|hy|hy
  ·subst hy
   have hy0:True:=trivial
   have cG:∀ W,Ext w5 W→∀ q,W.cell? ⟨G,q,none⟩=#[Value.int .i64 b.al,.slice (some ⟨gN,0,none⟩) m d,.slice B' b.acc.length d'][q]?:=fun W hW=>(zim.blk.ext hW).cell
   by_cases hka:k<b.acc.length
   ·obtain⟨gA,rfl,hgA,-⟩:=zae zim.acc (by omega)
    obtain⟨x,hx⟩:∃ x,b.acc[k]?=some x:=⟨_,List.getElem?_eq_getElem hka⟩
    have hca:w5.cell? ⟨gA,k,none⟩=some (.bool x):=by rw [zim.acc.cellAt k (by omega)];simp [zaB,hx]
    have cA:∀ W,Ext w5 W→W.cell? ⟨gA,k,none⟩=some (.bool x):=fun W hW=>hW.cell_some hca
    have fA:∀ W,Ext w5 W→W.frozen? ⟨gA,k,none⟩=false:=fun W hW=>(zh zim.acc hW).frozenAt k
    have hst:=(zim.ext (Ext.refl w5).drew).setAcc (i:=k) (x:=!x) rfl
    have hka':(k:Int)<(b.acc.length:Int):=by omega
    have hww:=Ext.refl w5
    clear hca hx
    go_wp2_with fail
    refine tR (fun X=>Ext w5 X) [10] (Ord.of [0,1,2,3,4,5,6,7,8,9,10]) ?_
    refine tQ ?_
    (refine zL rfl rfl rfl rfl (fun K hK=>?_))
    go_simp
    refine hK.out _ _ ?_
    refine zaj ?_
    go_wp2_with fail
    go_meet
    exact⟨_,_,_,_,_,hst.more (by omega),za ⟨by have:=Hb.out.1;omega,by have:=Hb.out.2.1;rw [List.length_set];omega,fun l' hl'=>by have:=Hb.out.2.2 l' hl';omega⟩⟩
   ·have hka':¬ ((b.acc.length:Int)>(k:Int)):=by omega
    have hww:=Ext.refl w5
    go_wp2_with fail
    go_meet
    exact⟨_,_,_,_,_,zim.more (by omega),za (Hb.out.more (by omega))⟩
  ·subst hy
   have hy0:True:=trivial
   by_cases hl0:0<l.length
   ·obtain⟨gr,rfl,-,-⟩:=zae hor hl0
    have hRG:=zim.hR
    have cN:∀ W,Dr R w5 W→W.cell? ⟨gN,k,none⟩=some (.slice (some ⟨gr,0,none⟩) l.length cr):=fun W hW=>hW.cell_some hcell (by simp;omega)
    have cG:∀ W,Dr R w5 W→∀ q,W.cell? ⟨G,q,none⟩=#[Value.int .i64 b.al,.slice (some ⟨gN,0,none⟩) m d,.slice B' b.acc.length d'][q]?:=fun W hW=>(zim.blk.dr hW (by have:=zim.hG;omega)).cell
    have hd0:=Dr.refl R w5
    clear hcell hor
    go_wp2_with fail
    refine tR (fun X=>Dr R w5 X) [17] (Ord.of [0,1,2,3,4,5,6,7,8,9,10,11,13,14,12,15,16,17]) ?_
    refine tQ ?_
    (refine zA rfl rfl rfl (fun K hK=>?_);go_simp)
    refine (zx (n:=l.length) (zim.rd.ext (Ext.refl _).drew) (by omega)).mono ?_
    rintro e w6 ⟨j,rfl,hj1,-,hr6,hd6⟩
    have hjl:=hj1 (by omega)
    have hd56:Dr R w5 w6:=(Dr.refl R w5).drew.trans hd6
    refine hK.out _ _ hd56 ?_
    refine pT ?_
    refine tQ ?_
    (refine zA rfl rfl rfl (fun K hK=>?_);go_simp)
    refine (zx (n:=m) hr6 (by omega)).mono ?_
    rintro e w7 ⟨x,rfl,hx1',-,hr7,hd7⟩
    have hd57:Dr R w5 w7:=hd56.trans hd7
    have hacc7:=zim.drawn hd57 hr7
    refine hK.out _ _ hd57 ?_
    refine pT ?_
    refine tQ ?_
    have zil:=hacc7.rows.2.1 k _ l HR.out HL.out
    obtain⟨o0,c0⟩:=zbb zil j (by omega)
    have f0:=zil.frozenAt j
    have hst:=hacc7.setRow (k:=j) (x:=x) HR.out HL.out rfl
    (refine zL rfl rfl rfl rfl (fun K hK=>?_))
    go_simp
    refine hK.out _ _ ?_
    refine zaj ?_
    go_wp2_with fail
    go_meet
    refine⟨_,_,_,_,_,hst.more (by omega),za ⟨by have:=Hb.out.1;rw [List.length_set];omega,by have:=Hb.out.2.1;omega,fun l' hl'=>?_⟩⟩
    rcases List.mem_or_eq_of_mem_set hl' with h1|h1
    ·have:=Hb.out.2.2 l' h1;omega
    ·rw [h1];simp;have:=Hbl.out;omega
   ·have hl1:l.length=0:=by omega
    have hl2:¬ ((l.length:Int)>0):=by omega
    have cG:=zim.blk.cell
    go_wp2_with fail
    go_meet
    exact⟨_,_,_,_,_,zim.more (by omega),za (Hb.out.more (by omega))⟩
  ·subst hy
   have hy0:True:=trivial
   have cG:∀ W,Ext w5 W→∀ q,W.cell? ⟨G,q,none⟩=#[Value.int .i64 b.al,.slice (some ⟨gN,0,none⟩) m d,.slice B' b.acc.length d'][q]?:=fun W hW=>(zim.blk.ext hW).cell
   have cNx:∀ W,Ext w5 W→W.cell? ⟨gN,k,none⟩=some (.slice Ar l.length cr):=fun W hW=>hW.cell_some hcell
   have hww:=Ext.refl w5
   by_cases h1:12≤m
   ·have h1':¬ ((m:Int)<12):=by omega
    go_wp2_with fail
    go_meet
    exact⟨_,_,_,_,_,zim.more (by omega),za (Hb.out.more (by omega))⟩
   have h1':(m:Int)<12:=by omega
   by_cases h2:b.acc.length≤k
   ·have h2':¬ ((b.acc.length:Int)>(k:Int)):=by omega
    go_wp2_with fail
    go_meet
    exact⟨_,_,_,_,_,zim.more (by omega),za (Hb.out.more (by omega))⟩
   have h2':(b.acc.length:Int)>(k:Int):=by omega
   by_cases h3:l.length≤0
   ·have h3':¬ ((l.length:Int)>0):=by omega
    have h3'':l.length=0:=by omega
    go_wp2_with fail
    go_meet
    exact⟨_,_,_,_,_,zim.more (by omega),za (Hb.out.more (by omega))⟩
   have hmes:=za zim.lenAt
   have hrdl:=Reads.of_own hor
   have Hrd:=za (fun W (hW:Ext w5 W)=>hrdl.ext hW)
   have hlow:=za zim.low
   have hor':=za hor
   clear hcell hor hrdl
   go_upto_region 15 with fail
   refine uR (fun X=>Ext w5 X) [10,12] (zw.of [0,1,3,4,5,6,7,2,8,9,10,11,12]) ?_
   refine uQ ?_
   have hx0:Ext w5 w5.drew:=hww.drew
   generalize w5.drew=wd at *
   (refine zd rfl rfl rfl (fun K hK=>?_);go_simp)
   have hm:=World.ownsRow_made (base:=w5.heap.size) (e:=3) (size:=1) wd #[] 0 hx0.size (Nat.zero_le _) rfl
   have hx1:=(Ext.refl wd).alloc (.cells #[] 3)
   replace hx0:=hx0.trans hx1
   refine hK.out _ _ hx0 ?_
   generalize wd.alloc (.cells #[] 3)=wm at *
   generalize wd.heap.size=MM at *
   refine pT ?_
   refine uQ ?_
   refine zd rfl rfl rfl (fun K hK=>?_)
   refine zv wm _ _ 137 rfl w5.heap.size 3 _ 1 8 Tryz.underlying137 zY rfl (by decide) (.slice (some ⟨MM,0,none⟩) 0 0) 0 [] rfl hm _ _ Ar l.length cr (ints l) rfl (Hrd.out _ hx0) (zfZ _) (by unfold maxLen;omega) (by omega) hx0.size ?_
   intro vR w6 hrow hgR hatR
   rw [Nat.zero_add,List.nil_append] at hrow
   obtain⟨BR,dR,rfl⟩:=zg hrow
   have hww3:Ext w5 w6:=hx0.grown hgR (fun k hk=>(hm.lt k hk).1)
   refine hK.out _ _ hww3 ?_
   refine pT ?_
   refine uQ ?_
   (refine zd rfl rfl rfl (fun K hK=>?_);go_simp)
   refine hK.out _ _ (hww3.alloc _) ?_
   refine pT ?_
   (refine zb rfl rfl rfl rfl (fun K hK=>?_))
   have hacc6:=zim.ext hww3
   have hnx6:=hacc6.nx
   rw [← Hm.out] at hnx6
   refine zaG w1 w6 _ _ _ rfl 137 _ 1 24 Tryz.underlying25 zbJ rfl (by decide) (.slice (some ⟨gN,0,none⟩) m d) m rows _ _ rfl rfl hacc6.dr.size hnx6 rfl (zaJ _ _ _) (by unfold maxLen;omega) (by omega) ?_
   intro g7 cap7 w7 hown7 hg7 hat7 hlt7
   refine hK.out _ _ ?_
   refine pT ?_
   refine uQ ?_
   obtain⟨p1,p2,p3⟩:=hacc6.pushRow (l:=l) (W':=w7) (g:=g7) (cap:=cap7) hlow.out hs1 hrow (by rw [← Hm.out];exact hown7) hg7 hat7
   have p1':=p1.out
   rw [← Hm.out] at p3
   (refine zb rfl rfl rfl rfl (fun K hK=>?_))
   go_simp
   refine hK.out _ _ ?_
   refine ze ?_
   generalize w7.setCell ⟨G,1,none⟩ (.slice (some ⟨g7,0,none⟩) (m+1) cap7)=w8 at *
   have hs8:=p3.dr.size
   clear p1 p1' p2 cG cNx hown7 hg7 hat7 hacc6 zim hnx6 hww3 hx0 hx1
   obtain⟨gA,rfl,hgA,-⟩:=zae p3.acc (by omega)
   obtain⟨x,hx⟩:∃ x,b.acc[k]?=some x:=⟨_,List.getElem?_eq_getElem (by omega)⟩
   have hca:w8.cell? ⟨gA,k,none⟩=some (.bool x):=by rw [p3.acc.cellAt k (by omega)];simp [zaB,hx]
   have cA:∀ W,Ext w8 W→W.cell? ⟨gA,k,none⟩=some (.bool x):=fun W hW=>hW.cell_some hca
   have cG8:∀ W,Ext w8 W→∀ q,W.cell? ⟨G,q,none⟩=#[Value.int .i64 b.al,.slice (some ⟨g7,0,none⟩) (m+1) cap7,.slice (some ⟨gA,0,none⟩) b.acc.length d'][q]?:=fun W hW=>(p3.blk.ext hW).cell
   have hww:=Ext.refl w8
   clear hca hx
   go_upto_region 16 with fail
   refine uR (fun X=>Ext w8 X) [8,10] (zw.of [0,1,2,3,4,5,6,7,8,9,10]) ?_
   refine uQ ?_
   have hx8:Ext w8 w8.drew:=hww.drew
   generalize w8.drew=wd2 at *
   (refine zd rfl rfl rfl (fun K hK=>?_);go_simp)
   refine hK.out _ _ (hx8.alloc _) ?_
   refine pT ?_
   (refine zb rfl rfl rfl rfl (fun K hK=>?_))
   have hacc8:=p3.ext hx8
   refine zaG w1 wd2 _ _ _ rfl 4 _ 1 1 Tryz.underlying26 zaX rfl (by decide) (.slice (some ⟨gA,0,none⟩) b.acc.length d') b.acc.length (zaB b.acc) _ _ rfl rfl hacc8.dr.size hacc8.acc rfl (by simp [Value.oneCell']) (by unfold maxLen;have:=Hb.out.2.1;omega) (by have:=Hb.out.2.1;omega) ?_
   intro g9 cap9 w9 hown9 hg9 hat9 hlt9
   refine hK.out _ _ ?_
   refine pT ?_
   refine uQ ?_
   obtain⟨q1,q2,q3⟩:=hacc8.pushAcc (x:=x) hown9 hg9 hat9
   have q1':=q1.out
   (refine zb rfl rfl rfl rfl (fun K hK=>?_))
   go_simp
   refine hK.out _ _ ?_
   refine ze ?_
   generalize w9.setCell ⟨G,2,none⟩ (.slice (some ⟨g9,0,none⟩) (b.acc.length+1) cap9)=w10 at *
   clear q1 q1' q2 cG8 cA hacc8 p3 hown9 hg9 hat9 hx8
   have hkl:k<rows.length:=by have:=q3.rows.1;simp at this;have:=Hm.out;omega
   have hR2:(rows++[Value.slice BR l.length dR])[k]?=some (.slice Ar l.length cr):=by rw [List.getElem?_append_left hkl];exact HR.out
   have hL2:(b.next++[l])[k]?=some l:=by rw [List.getElem?_append_left (by have:=Hm.out;omega)];exact HL.out
   have zil:=q3.rows.2.1 k _ l hR2 hL2
   obtain⟨gr,rfl,-,-⟩:=zae zil (by omega)
   obtain⟨o0,c0⟩:=zbb zil 0 (by omega)
   have f0:=zil.frozenAt 0
   have hst:=q3.setRow (k:=0) (x:=m) hR2 hL2 rfl
   have cG:=q3.blk.cell
   have cN:w10.cell? ⟨g7,k,none⟩=some (.slice (some ⟨gr,0,none⟩) l.length cr):=by
    have:=q3.nx
    rw [List.length_append,List.length_singleton,← Hm.out] at this
    rw [this.cellAt k (by omega)];exact hR2
   clear zil hR2 hL2
   go_wp2_with fail
   go_meet
   refine⟨_,_,_,_,_,hst.more (by omega),za ⟨by have:=Hb.out.1;rw [List.length_set];simp;omega,by have:=Hb.out.2.1;simp;omega,fun l' hl'=>?_⟩⟩
   rcases List.mem_or_eq_of_mem_set hl' with h1|h1
   ·rcases List.mem_append.1 h1 with h1|h1
    ·have:=Hb.out.2.2 l' h1;omega
    ·rw [List.mem_singleton.1 h1];have:=Hbl.out;omega
   ·rw [h1];simp;have:=Hbl.out;omega
  ·have h0':((y:Int)==0)=false:=by simp;omega
   have h1':((y:Int)==1)=false:=by simp;omega
   have h2':((y:Int)==2)=false:=by simp;omega
   go_wp2_with fail
   go_meet
   exact⟨_,_,_,_,_,zim.more (by omega),za (Hb.out.more (by omega))⟩
 case rest =>
  clear zim
  obtain⟨v,rows,ls,vA,acc,zim,hbd⟩:=hcut
  obtain⟨A5,c5,rfl⟩:=zg zim.nx
  obtain⟨B5,d5,rfl⟩:=zg zim.acc
  obtain⟨f1,f2⟩:=zim.fin (N:=M+10) (sh:=BdA (L+1)) hx1 bz rfl hRl (by omega) hz1 (by omega) hbd.out
  have bz5:=bz.dr zim.dr (by omega)
  have cG:=zim.blk.cell
  have cZ:=bz5.cell
  have fZ:=bz5.frozen
  go_wp2_with fail
  have cf:=f2.cell
  exact bodyPost_ret (v:=.agg #[.int .i64 b.al,.slice A5 ls.length c5,.slice B5 acc.length d5]) (by simp [results,Tryz.results174,go_sem,cf]) rfl f1.out
theorem own_typ {w:World} {base:Nat} {e:TypeId} {size n b:Nat} {v:Value} {xs:List Value}(h:w.ownsRow base e size v n xs)(hb:v.ownBlock=some b):∃ cur,w.heap[b]?=some (.cells cur e (0,0)):=by
 rcases h.2 with ⟨rfl,_⟩|⟨g,cap,cur,rfl,_,hh,_⟩
 ·simp [Value.ownBlock] at hb
 ·have:g=b:=by simpa [Value.ownBlock] using hb
  subst this
  exact⟨cur,hh⟩
theorem zZ.frmT {S:Nat→Prop} {w w':World} {base:Nat} {A:Option Addr} {n c:Nat} {A':Option Addr} {n' c':Nat} {a:Aut}(h:zZ w base A n c A' n' c' a)(hb:Frm S w w')
  (hS:∀ k,S k→∀ cs t,w.heap[k]?=some (.cells cs t (0,0))→t≠3∧t≠137∧t≠4):zZ w' base A n c A' n' c' a:=by
 obtain⟨⟨rows,h1,h2⟩,h3,h4,h5⟩:=h
 refine⟨⟨rows,zf h1 hb (fun b hv hs=>?_),h2.frm hb (fun i r b hr hb hs=>?_)⟩,h3,zf h4 hb (fun b hv hs=>?_),h5⟩
 ·obtain⟨cs,hc⟩:=own_typ h1 hv
  exact (hS b hs cs _ hc).2.1 rfl
 ·obtain⟨l',_,ho⟩:=h2.row hr
  obtain⟨cs,hc⟩:=own_typ ho hb
  exact (hS b hs cs _ hc).1 rfl
 ·obtain⟨cs,hc⟩:=own_typ h4 hv
  exact (hS b hs cs _ hc).2.2 rfl
theorem zZ.farT {w w':World} {base G:Nat} {A:Option Addr} {n c:Nat} {A':Option Addr} {n' c':Nat} {a:Aut} {cs:Array Value} {t:TypeId}(h:zZ w base A n c A' n' c' a)(hB:Blk w G t cs)(hf:Frm (fun k=>k=G) w w')(ht:t≠3∧t≠137∧t≠4):zZ w' base A n c A' n' c' a:=
 h.frmT hf (fun k hk cs' t' hh=>by
  subst hk
  unfold Blk at hB
  rw [hB] at hh
  injection hh with hh
  injection hh with _ h2
  subst h2
  exact ht)
theorem Dr.far {R Z:Nat} {a b c:World}(h:Dr R a b)(hf:Frm (fun k=>k=Z) b c)(hZ:a.heap.size≤Z):Dr R a c:=
 ⟨hf.os.trans h.os,hf.tape.trans h.tape,hf.output.trans h.output,Nat.le_trans h.size hf.size,fun k hk hn=>(hf.block k (Nat.lt_of_lt_of_le hk h.size) (fun e=>by omega)).trans (h.block k hk hn)⟩
theorem zah (W:World) (Z:Nat) (u0 u1 u2:Value):Frm (fun k=>k=Z) W (((W.setCell ⟨Z,0,none⟩ u0).setCell ⟨Z,1,none⟩ u1).setCell ⟨Z,2,none⟩ u2):=
 ((Frm.setCell W Z 0 u0).trans (Frm.setCell _ Z 1 u1)).trans (Frm.setCell _ Z 2 u2)
theorem zax {w:World} {Z:Nat} {cs:Array Value} {t:TypeId}(h:Blk w Z t cs)(hc:cs.size=3) (u0 u1 u2:Value):Blk (((w.setCell ⟨Z,0,none⟩ u0).setCell ⟨Z,1,none⟩ u1).setCell ⟨Z,2,none⟩ u2) Z t #[u0,u1,u2]:=by
 obtain⟨l⟩:=cs
 match l,hc with
 |[a,b,c],_=>simpa using ((h.set_ 0 u0).set_ 1 u1).set_ 2 u2
def autZ:Aut:=⟨0,[],[]⟩
theorem zhL (w:World) (base:Nat):zZ w base none 0 0 none 0 0 autZ:=⟨⟨[],World.ownsRow_nil _ _ _ _,zI.nil _ _⟩,rfl,World.ownsRow_nil _ _ _ _,rfl⟩
theorem bd_autZ (K:Nat):BdA K autZ:=⟨Nat.zero_le _,Nat.zero_le _,fun l hl=>by simp [autZ] at hl⟩
structure zbw (w0 W:World) (R M L K:Nat) (s:Sys) (A:Option Addr) (n c:Nat) (t:Sys) (C:Option Addr) (k c2:Nat) (p:Aut) (B:Option Addr) (m d:Nat) (B':Option Addr) (m' d':Nat):Prop where
 is:zbq W R A n s
 it:zbq W R C k t
 ip:zZ W (R+1) B m d B' m' d' p
 ns:(n≤L∧n≤c)∧(k≤L∧k≤c2)
 bd:Hid (BdA K p)
 rd:Rd W R M
 dr:Dr R w0 W
 hR:R<w0.heap.size
section
variable {w0 W W':World} {R M L K N J H Z n c k c2 m d m' d':Nat} {s t:Sys} {p:Aut} {A B B' C:Option Addr}
theorem zbw.drawn (h:zbw w0 W R M L K s A n c t C k c2 p B m d B' m' d')(hd:Dr R W W')(hr:Rd W' R N):zbw w0 W' R N L K s A n c t C k c2 p B m d B' m' d':=
 ⟨h.is.dr hd,h.it.dr hd,h.ip.keep hd (fun b h1 e=>by omega),h.ns,h.bd,hr,h.dr.trans hd,h.hR⟩
theorem zbw.ext (h:zbw w0 W R M L K s A n c t C k c2 p B m d B' m' d')(hx:Ext W W'):zbw w0 W' R M L K s A n c t C k c2 p B m d B' m' d':=h.drawn hx.dr (h.rd.ext hx)
theorem zbw.more (h:zbw w0 W R M L K s A n c t C k c2 p B m d B' m' d')(hM:M≤N)(hL:L≤J)(hK:K≤H):zbw w0 W R N J H s A n c t C k c2 p B m d B' m' d':=
 ⟨h.is,h.it,h.ip,by have:=h.ns;omega,za (BdL.more h.bd.out hK),h.rd.more hM,h.dr,h.hR⟩
theorem zbw.far {ty:TypeId} {cs:Array Value}(h:zbw w0 W R M L K s A n c t C k c2 p B m d B' m' d')(hB:Blk W Z ty cs)(hf:Frm (fun k=>k=Z) W W')(hZ:w0.heap.size≤Z)(h1:ty≠153)(h2:ty≠3∧ty≠137∧ty≠4):zbw w0 W' R M L K s A n c t C k c2 p B m d B' m' d':=
 ⟨h.is.far hB h1 hf,h.it.far hB h1 hf,h.ip.farT hB hf h2,h.ns,h.bd,h.rd.frm hf (fun k hk e=>by have:=h.hR;omega),h.dr.far hf hZ,h.hR⟩
theorem zbw.less {w1:World}(h:zbw w0 W R M L K s A n c t C k c2 p B m d B' m' d')(hd:Dr R w1 w0)(hR:R<w1.heap.size):zbw w1 W R M L K s A n c t C k c2 p B m d B' m' d':=
 ⟨h.is,h.it,h.ip,h.ns,h.bd,h.rd,hd.trans h.dr,hR⟩
end
def Ne6 (a b c d e f:Nat):Prop:=(a≠b∧a≠c∧a≠d∧a≠e∧a≠f)∧(b≠c∧b≠d∧b≠e∧b≠f)∧(c≠d∧c≠e∧c≠f)∧(d≠e∧d≠f)∧e≠f
structure Tri (w0 W:World) (R M L K:Nat) (Zs Zt Zp Gs Gt Gp:Nat) (s:Sys) (A:Option Addr) (n c:Nat) (t:Sys) (C:Option Addr) (k c2:Nat) (p:Aut) (B:Option Addr) (m d:Nat) (B':Option Addr) (m' d':Nat):Prop where
 at_:zbw w0 W R M L K s A n c t C k c2 p B m d B' m' d'
 zs:Blk W Zs 38 #[.int .i64 0,.int .i64 0,.slice none 0 0]
 zt:Blk W Zt 38 #[.int .i64 0,.int .i64 0,.slice none 0 0]
 zp:Blk W Zp 31 #[.int .i64 0,.slice none 0 0,.slice none 0 0]
 bs:Blk W Gs 38 #[.int .i64 s.al,.int .i64 s.st,.slice A n c]
 bt:Blk W Gt 38 #[.int .i64 t.al,.int .i64 t.st,.slice C k c2]
 bp:Gp=0∨Blk W Gp 31 #[.int .i64 p.al,.slice B m d,.slice B' m' d']
 ge:w0.heap.size≤Zs∧w0.heap.size≤Zt∧w0.heap.size≤Zp∧w0.heap.size≤Gs∧w0.heap.size≤Gt∧(Gp=0∨w0.heap.size≤Gp)
 ne:Hid (Ne6 Zs Zt Zp Gs Gt Gp)
section
variable {w0 W W':World} {R M L K N J H n c k c2 m d m' d' Zs Zt Zp Gs Gt Gp:Nat} {s t:Sys} {p:Aut} {A B B' C:Option Addr}
theorem Tri.drawn (h:Tri w0 W R M L K Zs Zt Zp Gs Gt Gp s A n c t C k c2 p B m d B' m' d')(hd:Dr R W W')(hr:Rd W' R N):Tri w0 W' R N L K Zs Zt Zp Gs Gt Gp s A n c t C k c2 p B m d B' m' d':=by
 have hR:=h.at_.hR
 have hg:=h.ge
 exact⟨h.at_.drawn hd hr,h.zs.dr hd (by omega),h.zt.dr hd (by omega),h.zp.dr hd (by omega),h.bs.dr hd (by omega),h.bt.dr hd (by omega),by
  rcases hg.2.2.2.2.2 with e|e
  ·exact .inl e
  ·exact h.bp.imp id (fun b=>b.dr hd (by omega)),hg,h.ne⟩
theorem Tri.ext (h:Tri w0 W R M L K Zs Zt Zp Gs Gt Gp s A n c t C k c2 p B m d B' m' d')(hx:Ext W W'):Tri w0 W' R M L K Zs Zt Zp Gs Gt Gp s A n c t C k c2 p B m d B' m' d':=h.drawn hx.dr (h.at_.rd.ext hx)
theorem Tri.more (h:Tri w0 W R M L K Zs Zt Zp Gs Gt Gp s A n c t C k c2 p B m d B' m' d')(hM:M≤N)(hL:L≤J)(hK:K≤H):Tri w0 W R N J H Zs Zt Zp Gs Gt Gp s A n c t C k c2 p B m d B' m' d':={ h with at_:=h.at_.more hM hL hK }
theorem Tri.pvar (h:Tri w0 W R M L K Zs Zt Zp Gs Gt Gp s A n c t C k c2 p B m d B' m' d')(hG:Gp≠0):Blk W Gp 31 #[.int .i64 p.al,.slice B m d,.slice B' m' d']:=h.bp.resolve_left hG
theorem Tri.setS {s2:Sys} {A2:Option Addr} {n2 d2:Nat}(h:Tri w0 W R M L K Zs Zt Zp Gs Gt Gp s A n c t C k c2 p B m d B' m' d')(hs:zbq W R A2 n2 s2)(hn:n2≤L∧n2≤d2) :
  Tri w0 (((W.setCell ⟨Gs,0,none⟩ (.int .i64 s2.al)).setCell ⟨Gs,1,none⟩ (.int .i64 s2.st)).setCell ⟨Gs,2,none⟩ (.slice A2 n2 d2)) R M L K Zs Zt Zp Gs Gt Gp s2 A2 n2 d2 t C k c2 p B m d B' m' d':=by
 have hf:=zah W Gs (.int .i64 s2.al) (.int .i64 s2.st) (.slice A2 n2 d2)
 obtain⟨⟨a1,a2,a3,a4,a5⟩,⟨b1,b2,b3,b4⟩,⟨c1,c2,c3⟩,⟨d1,d2'⟩,e1⟩:=h.ne.out
 have h1:=h.at_.far h.bs hf h.ge.2.2.2.1 (by decide) (by decide)
 exact⟨{ h1 with is:=hs.far h.bs (by decide) hf,ns:=⟨hn,h1.ns.2⟩ },h.zs.frm hf (by omega),h.zt.frm hf (by omega),h.zp.frm hf (by omega),zax h.bs rfl _ _ _,h.bt.frm hf (by omega),h.bp.imp id (fun b=>b.frm hf (by omega)),h.ge,h.ne⟩
theorem Tri.setT {s2:Sys} {A2:Option Addr} {n2 d2:Nat}(h:Tri w0 W R M L K Zs Zt Zp Gs Gt Gp s A n c t C k c2 p B m d B' m' d')(hs:zbq W R A2 n2 s2)(hn:n2≤L∧n2≤d2) :
  Tri w0 (((W.setCell ⟨Gt,0,none⟩ (.int .i64 s2.al)).setCell ⟨Gt,1,none⟩ (.int .i64 s2.st)).setCell ⟨Gt,2,none⟩ (.slice A2 n2 d2)) R M L K Zs Zt Zp Gs Gt Gp s A n c s2 A2 n2 d2 p B m d B' m' d':=by
 have hf:=zah W Gt (.int .i64 s2.al) (.int .i64 s2.st) (.slice A2 n2 d2)
 obtain⟨⟨a1,a2,a3,a4,a5⟩,⟨b1,b2,b3,b4⟩,⟨c1,c2,c3⟩,⟨d1,d2'⟩,e1⟩:=h.ne.out
 have h1:=h.at_.far h.bt hf h.ge.2.2.2.2.1 (by decide) (by decide)
 exact⟨{ h1 with it:=hs.far h.bt (by decide) hf,ns:=⟨h1.ns.1,hn⟩ },h.zs.frm hf (by omega),h.zt.frm hf (by omega),h.zp.frm hf (by omega),h.bs.frm hf (by omega),zax h.bt rfl _ _ _,h.bp.imp id (fun b=>b.frm hf (by omega)),h.ge,h.ne⟩
theorem Tri.setP {p2:Aut} {A2:Option Addr} {n2 d2:Nat} {A3:Option Addr} {n3 d3:Nat}(h:Tri w0 W R M L K Zs Zt Zp Gs Gt Gp s A n c t C k c2 p B m d B' m' d')(hG:Gp≠0)(hp:zZ W (R+1) A2 n2 d2 A3 n3 d3 p2)(hb:BdA K p2) :
  Tri w0 (((W.setCell ⟨Gp,0,none⟩ (.int .i64 p2.al)).setCell ⟨Gp,1,none⟩ (.slice A2 n2 d2)).setCell ⟨Gp,2,none⟩ (.slice A3 n3 d3)) R M L K Zs Zt Zp Gs Gt Gp s A n c t C k c2 p2 A2 n2 d2 A3 n3 d3:=by
 have hf:=zah W Gp (.int .i64 p2.al) (.slice A2 n2 d2) (.slice A3 n3 d3)
 obtain⟨⟨a1,a2,a3,a4,a5⟩,⟨b1,b2,b3,b4⟩,⟨c1,c2,c3⟩,⟨d1,d2'⟩,e1⟩:=h.ne.out
 have hB:=h.pvar hG
 have h1:=h.at_.far hB hf (h.ge.2.2.2.2.2.resolve_left hG) (by decide) (by decide)
 exact⟨{ h1 with ip:=hp.farT hB hf (by decide),bd:=za hb },h.zs.frm hf (by omega),h.zt.frm hf (by omega),h.zp.frm hf (by omega),h.bs.frm hf (by omega),h.bt.frm hf (by omega),.inr (zax hB rfl _ _ _),h.ge,h.ne⟩
end
def RetSTP (R M L K:Nat) (w:World) (e:Ending) (w':World):Prop:=
 ∃ (s:Sys) (A:Option Addr) (n c:Nat) (t:Sys) (C:Option Addr) (k c2:Nat) (p:Aut) (B:Option Addr) (m d:Nat) (B':Option Addr) (m' d':Nat),
  e=.returned (.tuple #[.agg #[.int .i64 s.al,.int .i64 s.st,.slice A n c],.agg #[.int .i64 t.al,.int .i64 t.st,.slice C k c2],.agg #[.int .i64 p.al,.slice B m d,.slice B' m' d']])∧zbw w w' R M L K s A n c t C k c2 p B m d B' m' d'
def RetSPT (R M L K:Nat) (w:World) (e:Ending) (w':World):Prop:=
 ∃ (s:Sys) (A:Option Addr) (n c:Nat) (t:Sys) (C:Option Addr) (k c2:Nat) (p:Aut) (B:Option Addr) (m d:Nat) (B':Option Addr) (m' d':Nat),
  e=.returned (.tuple #[.agg #[.int .i64 s.al,.int .i64 s.st,.slice A n c],.agg #[.int .i64 p.al,.slice B m d,.slice B' m' d'],.agg #[.int .i64 t.al,.int .i64 t.st,.slice C k c2]])∧zbw w w' R M L K s A n c t C k c2 p B m d B' m' d'
section
variable {w0 W:World} {R M L K N J H n c k c2 m d m' d' Zs Zt Zp:Nat} {s t:Sys} {p:Aut} {A B B' C:Option Addr} {us ut up:Array Value}
theorem zbw.finSTP (h:zbw w0 W R M L K s A n c t C k c2 p B m d B' m' d') (zs:Blk W Zs 38 us) (zt:Blk W Zt 38 ut) (zp:Blk W Zp 31 up)(h1:us.size=3)(h2:ut.size=3)(h3:up.size=3)(hz1:w0.heap.size≤Zs)(hz2:w0.heap.size≤Zt)(hz3:w0.heap.size≤Zp) (e1:Zs≠Zt) (e2:Zs≠Zp) (e3:Zt≠Zp) :
  Hid (zbw w0 (((((((((W.setCell ⟨Zs,0,none⟩ (.int .i64 s.al)).setCell ⟨Zs,1,none⟩ (.int .i64 s.st)).setCell ⟨Zs,2,none⟩ (.slice A n c)).setCell ⟨Zt,0,none⟩ (.int .i64 t.al)).setCell ⟨Zt,1,none⟩ (.int .i64 t.st)).setCell ⟨Zt,2,none⟩ (.slice C k c2)).setCell ⟨Zp,0,none⟩ (.int .i64 p.al)).setCell ⟨Zp,1,none⟩ (.slice B m d)).setCell ⟨Zp,2,none⟩ (.slice B' m' d')) R M L K s A n c t C k c2 p B m d B' m' d') ∧
  Hid (Blk (((((((((W.setCell ⟨Zs,0,none⟩ (.int .i64 s.al)).setCell ⟨Zs,1,none⟩ (.int .i64 s.st)).setCell ⟨Zs,2,none⟩ (.slice A n c)).setCell ⟨Zt,0,none⟩ (.int .i64 t.al)).setCell ⟨Zt,1,none⟩ (.int .i64 t.st)).setCell ⟨Zt,2,none⟩ (.slice C k c2)).setCell ⟨Zp,0,none⟩ (.int .i64 p.al)).setCell ⟨Zp,1,none⟩ (.slice B m d)).setCell ⟨Zp,2,none⟩ (.slice B' m' d')) Zs 38 #[.int .i64 s.al,.int .i64 s.st,.slice A n c] ∧
  Blk (((((((((W.setCell ⟨Zs,0,none⟩ (.int .i64 s.al)).setCell ⟨Zs,1,none⟩ (.int .i64 s.st)).setCell ⟨Zs,2,none⟩ (.slice A n c)).setCell ⟨Zt,0,none⟩ (.int .i64 t.al)).setCell ⟨Zt,1,none⟩ (.int .i64 t.st)).setCell ⟨Zt,2,none⟩ (.slice C k c2)).setCell ⟨Zp,0,none⟩ (.int .i64 p.al)).setCell ⟨Zp,1,none⟩ (.slice B m d)).setCell ⟨Zp,2,none⟩ (.slice B' m' d')) Zt 38 #[.int .i64 t.al,.int .i64 t.st,.slice C k c2] ∧
  Blk (((((((((W.setCell ⟨Zs,0,none⟩ (.int .i64 s.al)).setCell ⟨Zs,1,none⟩ (.int .i64 s.st)).setCell ⟨Zs,2,none⟩ (.slice A n c)).setCell ⟨Zt,0,none⟩ (.int .i64 t.al)).setCell ⟨Zt,1,none⟩ (.int .i64 t.st)).setCell ⟨Zt,2,none⟩ (.slice C k c2)).setCell ⟨Zp,0,none⟩ (.int .i64 p.al)).setCell ⟨Zp,1,none⟩ (.slice B m d)).setCell ⟨Zp,2,none⟩ (.slice B' m' d')) Zp 31 #[.int .i64 p.al,.slice B m d,.slice B' m' d']):=by
 have f1:=zah W Zs (.int .i64 s.al) (.int .i64 s.st) (.slice A n c)
 have q1:=zax zs h1 (.int .i64 s.al) (.int .i64 s.st) (.slice A n c)
 replace h:=h.far zs f1 hz1 (by decide) (by decide)
 replace zt:=zt.frm f1 (by omega)
 replace zp:=zp.frm f1 (by omega)
 clear f1 zs
 generalize ((W.setCell ⟨Zs,0,none⟩ (.int .i64 s.al)).setCell ⟨Zs,1,none⟩ (.int .i64 s.st)).setCell ⟨Zs,2,none⟩ (.slice A n c)=W1 at *
 have f2:=zah W1 Zt (.int .i64 t.al) (.int .i64 t.st) (.slice C k c2)
 have q2:=zax zt h2 (.int .i64 t.al) (.int .i64 t.st) (.slice C k c2)
 replace h:=h.far zt f2 hz2 (by decide) (by decide)
 replace q1:=q1.frm f2 (by omega)
 replace zp:=zp.frm f2 (by omega)
 clear f2 zt
 generalize ((W1.setCell ⟨Zt,0,none⟩ (.int .i64 t.al)).setCell ⟨Zt,1,none⟩ (.int .i64 t.st)).setCell ⟨Zt,2,none⟩ (.slice C k c2)=W2 at *
 have f3:=zah W2 Zp (.int .i64 p.al) (.slice B m d) (.slice B' m' d')
 exact⟨za (h.far zp f3 hz3 (by decide) (by decide)),za ⟨q1.frm f3 (by omega),q2.frm f3 (by omega),zax zp h3 _ _ _⟩⟩
theorem zbw.finSPT (h:zbw w0 W R M L K s A n c t C k c2 p B m d B' m' d') (zs:Blk W Zs 38 us) (zt:Blk W Zt 38 ut) (zp:Blk W Zp 31 up)(h1:us.size=3)(h2:ut.size=3)(h3:up.size=3)(hz1:w0.heap.size≤Zs)(hz2:w0.heap.size≤Zt)(hz3:w0.heap.size≤Zp) (e1:Zs≠Zt) (e2:Zs≠Zp) (e3:Zt≠Zp) :
  Hid (zbw w0 (((((((((W.setCell ⟨Zs,0,none⟩ (.int .i64 s.al)).setCell ⟨Zs,1,none⟩ (.int .i64 s.st)).setCell ⟨Zs,2,none⟩ (.slice A n c)).setCell ⟨Zp,0,none⟩ (.int .i64 p.al)).setCell ⟨Zp,1,none⟩ (.slice B m d)).setCell ⟨Zp,2,none⟩ (.slice B' m' d')).setCell ⟨Zt,0,none⟩ (.int .i64 t.al)).setCell ⟨Zt,1,none⟩ (.int .i64 t.st)).setCell ⟨Zt,2,none⟩ (.slice C k c2)) R M L K s A n c t C k c2 p B m d B' m' d') ∧
  Hid (Blk (((((((((W.setCell ⟨Zs,0,none⟩ (.int .i64 s.al)).setCell ⟨Zs,1,none⟩ (.int .i64 s.st)).setCell ⟨Zs,2,none⟩ (.slice A n c)).setCell ⟨Zp,0,none⟩ (.int .i64 p.al)).setCell ⟨Zp,1,none⟩ (.slice B m d)).setCell ⟨Zp,2,none⟩ (.slice B' m' d')).setCell ⟨Zt,0,none⟩ (.int .i64 t.al)).setCell ⟨Zt,1,none⟩ (.int .i64 t.st)).setCell ⟨Zt,2,none⟩ (.slice C k c2)) Zs 38 #[.int .i64 s.al,.int .i64 s.st,.slice A n c] ∧
  Blk (((((((((W.setCell ⟨Zs,0,none⟩ (.int .i64 s.al)).setCell ⟨Zs,1,none⟩ (.int .i64 s.st)).setCell ⟨Zs,2,none⟩ (.slice A n c)).setCell ⟨Zp,0,none⟩ (.int .i64 p.al)).setCell ⟨Zp,1,none⟩ (.slice B m d)).setCell ⟨Zp,2,none⟩ (.slice B' m' d')).setCell ⟨Zt,0,none⟩ (.int .i64 t.al)).setCell ⟨Zt,1,none⟩ (.int .i64 t.st)).setCell ⟨Zt,2,none⟩ (.slice C k c2)) Zt 38 #[.int .i64 t.al,.int .i64 t.st,.slice C k c2] ∧
  Blk (((((((((W.setCell ⟨Zs,0,none⟩ (.int .i64 s.al)).setCell ⟨Zs,1,none⟩ (.int .i64 s.st)).setCell ⟨Zs,2,none⟩ (.slice A n c)).setCell ⟨Zp,0,none⟩ (.int .i64 p.al)).setCell ⟨Zp,1,none⟩ (.slice B m d)).setCell ⟨Zp,2,none⟩ (.slice B' m' d')).setCell ⟨Zt,0,none⟩ (.int .i64 t.al)).setCell ⟨Zt,1,none⟩ (.int .i64 t.st)).setCell ⟨Zt,2,none⟩ (.slice C k c2)) Zp 31 #[.int .i64 p.al,.slice B m d,.slice B' m' d']):=by
 have f1:=zah W Zs (.int .i64 s.al) (.int .i64 s.st) (.slice A n c)
 have q1:=zax zs h1 (.int .i64 s.al) (.int .i64 s.st) (.slice A n c)
 replace h:=h.far zs f1 hz1 (by decide) (by decide)
 replace zt:=zt.frm f1 (by omega)
 replace zp:=zp.frm f1 (by omega)
 clear f1 zs
 generalize ((W.setCell ⟨Zs,0,none⟩ (.int .i64 s.al)).setCell ⟨Zs,1,none⟩ (.int .i64 s.st)).setCell ⟨Zs,2,none⟩ (.slice A n c)=W1 at *
 have f2:=zah W1 Zp (.int .i64 p.al) (.slice B m d) (.slice B' m' d')
 have q2:=zax zp h3 (.int .i64 p.al) (.slice B m d) (.slice B' m' d')
 replace h:=h.far zp f2 hz3 (by decide) (by decide)
 replace q1:=q1.frm f2 (by omega)
 replace zt:=zt.frm f2 (by omega)
 clear f2 zp
 generalize ((W1.setCell ⟨Zp,0,none⟩ (.int .i64 p.al)).setCell ⟨Zp,1,none⟩ (.slice B m d)).setCell ⟨Zp,2,none⟩ (.slice B' m' d')=W2 at *
 have f3:=zah W2 Zt (.int .i64 t.al) (.int .i64 t.st) (.slice C k c2)
 exact⟨za (h.far zt f3 hz2 (by decide) (by decide)),za ⟨q1.frm f3 (by omega),zax zt h2 _ _ _,q2.frm f3 (by omega)⟩⟩
end
theorem bits_all (y:Nat)(hy:y<64):bits .and .i64 (-1) (y:Int)=(y:Int):=
 (show ∀ y:Fin 64,bits .and .i64 (-1) ((y.val:Nat):Int)=((y.val:Nat):Int) by decide +kernel) ⟨y,hy⟩
theorem yK03a4 {P:Prop}(h:P:=by
 obtain⟨f1,f2⟩:=zhv (N:=M+600) (sh:=zfJ) hxz zil hsh.out hr6 hd6 bz rfl hRl (Nat.le_refl _) (Nat.le_refl _)
 have bz5:=bz.dr hd6 (by omega)
 have cZ:=bz5.cell
 have fZ:=bz5.frozen
 go_wp2_with fail
 have cf:=f2.cell
 exact bodyPost_ret (v:=.agg #[.int .i64 b.al,.slice A n c,.slice A' n' c']) (by simp [results,Tryz.results243,go_sem,cf]) rfl f1.out
 ):P:=h
theorem zfU {R M:Nat} {zz:Int} {w:World}(h:Rd w R M)(hM:M≤700000000)(ha:(∃ a:Nat,zz=(a:Int)∧a<64)∨zz = -1) :
  Calls Tryz.prog 243 #[.pointer (some ⟨R,0,none⟩),.int .i64 zz] w (zfK R (M+600) zfJ w):=by
 have hRl:=h.lt
 go_enter Tryz.func243,Tryz.ntmps243
 have hxz:=(Ext.refl w).alloc (.cells #[.int .i64 0,.slice none 0 0,.slice none 0 0] 31)
 have bz:=Blk.new w 31 #[.int .i64 0,.slice none 0 0,.slice none 0 0]
 have hsz:(w.alloc (.cells #[.int .i64 0,.slice none 0 0,.slice none 0 0] 31)).heap.size=w.heap.size+1:=by simp
 go_wp2_with fail
 rw [← hsz]
 generalize w.alloc (.cells #[.int .i64 0,.slice none 0 0,.slice none 0 0] 31)=w1 at *
 refine (zaL [63,63,5,3,6] 5 #[.int .i64 63,.int .i64 63,.int .i64 5,.int .i64 3,.int .i64 6] rfl rfl (by omega) (by omega) (h.ext hxz) (by omega)).mono ?_
 rintro e w2 ⟨x,hx,rfl,hr2,hd2⟩
 obtain⟨y,hy,rfl⟩:∃ y:Nat,y<64∧x=(y:Int):=⟨x.toNat,by simp at hx;omega,by simp at hx;omega⟩
 clear hx
 replace hd2:=((Dr.refl R w1).alloc _).trans hd2
 obtain⟨d,hand,hsm⟩:∃ d:Nat,bits .and .i64 zz (y:Int)=(d:Int)∧d<64:=by
  rcases ha with ⟨a,rfl,ha⟩|rfl
  ·exact⟨a&&&y,zcl (by unfold Sm;omega) (by unfold Sm;omega),Nat.lt_of_le_of_lt Nat.and_le_left ha⟩
  ·exact⟨y,bits_all y hy,hy⟩
 go_upto_region 2 with fail
 clear hand
 go_wp2_with fail
 refine (zx hr2 (by omega)).mono ?_
 rintro e w3 ⟨z,rfl,-,-,hr3,hd3⟩
 replace hd3:=hd2.trans hd3
 clear hd2 hr2
 go_upto_if 13 with fail
 go_cut [5] (fun s5 wx=>∃ d:Nat,d<64∧s5=.int .i64 (d:Nat)∧Rd wx R (M+10)∧Dr R w1 wx)
 case first =>
  by_cases hz:z=0
  ·subst hz
   go_wp2_with fail
   refine (spec_l1Some hr3 (by omega)).mono ?_
   rintro e w4 ⟨x,hx,rfl,hr4,hd4⟩
   go_wp2_with fail
   go_meet
   exact⟨x,hx,rfl,hr4.more (by omega),hd3.trans hd4⟩
  ·have hz':((z:Int)==0)=false:=by simp;omega
   go_wp2_with fail
   go_meet
   exact⟨d,hsm,rfl,hr3.more (by omega),hd3⟩
 case rest =>
  clear hr3 hd3 hsm
  obtain⟨d,hd,rfl,hr3,hd3⟩:=hcut
  go_wp2_with fail
  refine (zx hr3 (by omega)).mono ?_
  rintro e w4 ⟨y,rfl,-,-,hr4,hd4⟩
  replace hd4:=hd3.trans hd4
  by_cases hy:0<y
  ·have hy':((y:Int)>0):=by omega
   go_wp2_with fail
   refine (zaL [3,2,4,1] 4 #[.int .i64 3,.int .i64 2,.int .i64 4,.int .i64 1] rfl rfl (by omega) (by omega) hr4 (by omega)).mono ?_
   rintro e w5 ⟨x,hx,rfl,hr5,hd5⟩
   obtain⟨p,hp1,hp2,rfl⟩:∃ y:Nat,1≤y∧y≤4∧x=(y:Int):=⟨x.toNat,by simp at hx;omega,by simp at hx;omega,by simp at hx;omega⟩
   clear hx
   have hd15:=(hd4.alloc _).trans hd5
   go_wp2_with fail
   refine (zgE hr5 (by omega) hd hp1 (by omega)).mono ?_
   intro e w6 hret
   obtain⟨b,A,n,c,A',n',c',rfl,zil,hsh,hr6,hd6⟩:=hret.mono (N:=M+600) (sh':=zfJ) hd15 (by omega) (fun b hb=>⟨d,p,hd,hp1,by omega,hb⟩)
   exact yK03a4
  ·have hy':¬ ((y:Int)>0):=by omega
   go_wp2_with fail
   refine (zgD hr4 (by omega) hd).mono ?_
   intro e w6 hret
   obtain⟨b,A,n,c,A',n',c',rfl,zil,hsh,hr6,hd6⟩:=hret.mono (N:=M+600) (sh':=zfJ) hd4 (by omega) (fun b hb=>hb)
   exact yK03a4
theorem zgG {R M a:Nat} {w:World}(h:Rd w R M)(hM:M≤700000000)(ha:a<64) :
  Calls Tryz.prog 243 #[.pointer (some ⟨R,0,none⟩),.int .i64 a] w (zfK R (M+600) zfJ w):=zfU h hM (.inl ⟨a,rfl,ha⟩)
theorem Dr.new {R:Nat} {w w1 w2:World}(h:Ext w w1)(hR:w.heap.size≤R)(hd:Dr R w1 w2):Ext w w2:=
 h.frm hd (fun k hk he=>by omega)
theorem zbq.new {R n:Nat} {w W:World} {A:Option Addr} {s:Sys}(h:zbq W R A n s)(hR:w.heap.size≤R):zN W w.heap.size W.heap.size A n s:=
 h.at_.more (by omega) (Nat.le_refl _)
theorem zfE {R M:Nat} {w:World}(h:Rd w R M)(hM:M≤800000000) :
  Calls Tryz.prog 201 #[.pointer (some ⟨R,0,none⟩)] w (RetG R (M+30000) 20000 w):=by
 have hRl:=h.lt
 have hx0:=(Ext.refl w).alloc (.cells #[.int .i64 0,.int .i64 0,.slice none 0 0] 38)
 have bz5:=Blk.new w 38 #[.int .i64 0,.int .i64 0,.slice none 0 0]
 have hr5:=h.ext hx0
 have hw5:=hx0.dr (R:=R)
 have hz1:=bz5.lt
 go_enter Tryz.func201,Tryz.ntmps201
 go_wp2_with fail
 have C6:=(zaL [3,6,7,5,2] 5 #[.int .i64 3,.int .i64 6,.int .i64 7,.int .i64 5,.int .i64 2] rfl rfl (by omega) (by omega) hr5 (by omega))
 simp only [World.size_alloc] at C6
 refine C6.mono ?_
 rintro e w6 ⟨al,hal,rfl,hr6,hd6⟩
 have hw6:=(hw5.ext ((Ext.refl _).alloc _)).trans hd6
 have bz6:=(bz5.ext ((Ext.refl _).alloc _)).dr hd6 (by omega)
 go_wp2_with fail
 refine (zaL [2,3,1,3] 4 #[.int .i64 2,.int .i64 3,.int .i64 1,.int .i64 3] rfl rfl (by omega) (by omega) hr6 (by omega)).mono ?_
 rintro e w7 ⟨st,hst,rfl,hr7,hd7⟩
 have hw7:=(hw6.ext ((Ext.refl _).alloc _)).trans hd7
 have bz7:=(bz6.ext ((Ext.refl _).alloc _)).dr hd7 (by omega)
 go_wp2_with fail
 refine (zaL [2,3,4] 3 #[.int .i64 2,.int .i64 3,.int .i64 4] rfl rfl (by omega) (by omega) hr7 (by omega)).mono ?_
 rintro e w8 ⟨fw,_,rfl,hr8,hd8⟩
 have hw8:=(hw7.ext ((Ext.refl _).alloc _)).trans hd8
 have bz8:=(bz7.ext ((Ext.refl _).alloc _)).dr hd8 (by omega)
 obtain⟨a,rfl,ha⟩:∃ a:Nat,al=a∧a<64:=⟨al.toNat,by simp at hal;omega,by simp at hal;omega⟩
 obtain⟨p,rfl,hp1,hp⟩:∃ p:Nat,st=p∧1≤p∧p≤16:=⟨st.toNat,by simp at hst;omega,by simp at hst;omega,by simp at hst;omega⟩
 clear hal hst
 go_wp2_with fail
 refine (zdt hr8 (by omega) ha hp1 hp).mono ?_
 rintro e w9 ⟨s9,A9,n9,c9,rfl,hs9,hg9,hn9,hr9,hd9⟩
 have bz9:=bz8.dr hd9 (by omega)
 have hfin9:=za (zge (R:=R) (M:=M+30000) (L:=20000) (c:=c9) hs9 hg9 hn9 (hr9.more (by omega)) (hw8.trans hd9) bz9 hRl (Nat.le_refl _))
 have cz9:=bz9.cell
 have fz9:=bz9.frozen
 go_wp2_with fail
 exact bodyPost_ret (v:=.agg #[.int .i64 s9.al,.int .i64 s9.st,.slice A9 n9 c9]) (by simp [results,Tryz.results201,go_sem,cz9]) rfl hfin9.out
theorem or_al {a b:Nat}(ha:a<64)(hb:b<64):bits .or .i64 (a:Int) (b:Int)=((a|||b:Nat):Int)∧a|||b<64:=by
 have h:=Nat.or_lt_two_pow (n:=6) (x:=a) (y:=b) (by omega) (by omega)
 exact⟨zbG (by unfold Sm;omega) (by unfold Sm;omega),by omega⟩
theorem spec_l9Three {R M:Nat} {w:World}(h:Rd w R M)(hM:M≤600000000) :
  Calls Tryz.prog 168 #[.pointer (some ⟨R,0,none⟩)] w (RetSPT R (M+150000) 20000 16 w):=by
 have hRl:=h.lt
 have hx0:Ext w (((w.alloc (.cells #[.int .i64 0,.int .i64 0,.slice none 0 0] 38)).alloc (.cells #[.int .i64 0,.slice none 0 0,.slice none 0 0] 31)).alloc (.cells #[.int .i64 0,.int .i64 0,.slice none 0 0] 38)):=(((Ext.refl _).alloc _).alloc _).alloc _
 obtain⟨z1,z2,z3⟩:=zO (Ext.refl (((w.alloc (.cells #[.int .i64 0,.int .i64 0,.slice none 0 0] 38)).alloc (.cells #[.int .i64 0,.slice none 0 0,.slice none 0 0] 31)).alloc (.cells #[.int .i64 0,.int .i64 0,.slice none 0 0] 38)))
 have hsz:(((w.alloc (.cells #[.int .i64 0,.int .i64 0,.slice none 0 0] 38)).alloc (.cells #[.int .i64 0,.slice none 0 0,.slice none 0 0] 31)).alloc (.cells #[.int .i64 0,.int .i64 0,.slice none 0 0] 38)).heap.size=w.heap.size+3:=by simp
 go_enter Tryz.func168,Tryz.ntmps168
 go_upto_region 1 with fail
 generalize ((w.alloc (.cells #[.int .i64 0,.int .i64 0,.slice none 0 0] 38)).alloc (.cells #[.int .i64 0,.slice none 0 0,.slice none 0 0] 31)).alloc (.cells #[.int .i64 0,.int .i64 0,.slice none 0 0] 38)=w0 at *
 go_wp2_with fail
 refine (zfE (h.ext hx0) (by omega)).mono ?_
 rintro e w1 ⟨s,A,n,c,rfl,hs1,hg1,hn1,hr1,hd1⟩
 have hw1:=hd1.size
 have hx2:=(Ext.refl w1).alloc (.cells #[.int .i64 s.al,.int .i64 s.st,.slice A n c] 38)
 have bs:=Blk.new w1 38 #[.int .i64 s.al,.int .i64 s.st,.slice A n c]
 have hs2:(w1.alloc (.cells #[.int .i64 s.al,.int .i64 s.st,.slice A n c] 38)).heap.size=w1.heap.size+1:=by simp
 have hd2:Dr R w (w1.alloc (.cells #[.int .i64 s.al,.int .i64 s.st,.slice A n c] 38)):=(hx0.dr.trans hd1).alloc _
 replace hs1:=hs1.ext hx2
 replace hr1:=hr1.ext hx2
 replace z1:=(z1.dr hd1 (by omega)).ext hx2
 replace z2:=(z2.dr hd1 (by omega)).ext hx2
 replace z3:=(z3.dr hd1 (by omega)).ext hx2
 go_upto_region 2 with fail
 generalize hGs:w1.heap.size=Gs at *
 generalize w1.alloc (.cells #[.int .i64 s.al,.int .i64 s.st,.slice A n c] 38)=w2 at *
 clear hx2
 go_wp2_with fail
 refine (zfE hr1 (by omega)).mono ?_
 rintro e w3 ⟨t,C,k,c2,rfl,ht1,hg2,hn2,hr3,hd3⟩
 have hw3:=hd3.size
 have hx4:=(Ext.refl w3).alloc (.cells #[.int .i64 t.al,.int .i64 t.st,.slice C k c2] 38)
 have bt:=Blk.new w3 38 #[.int .i64 t.al,.int .i64 t.st,.slice C k c2]
 have ht2:Tri w (w3.alloc (.cells #[.int .i64 t.al,.int .i64 t.st,.slice C k c2] 38)) R (M+60000) 20000 16 w.heap.size (w.heap.size+1+1) (w.heap.size+1) Gs w3.heap.size 0 s A n c t C k c2 autZ none 0 0 none 0 0:=
  ⟨⟨(hs1.dr hd3).ext hx4,ht1.ext hx4,zhL _ _,⟨hn1,hn2⟩,za (bd_autZ _),(hr3.ext hx4).more (by omega),(hd2.trans hd3).ext hx4,hRl⟩,(z1.dr hd3 (by omega)).ext hx4,(z3.dr hd3 (by omega)).ext hx4,(z2.dr hd3 (by omega)).ext hx4,(bs.dr hd3 (by omega)).ext hx4,bt,.inl rfl,by omega,za (by unfold Ne6;omega)⟩
 clear hs1 hr1 z1 z2 z3 bs bt ht1 hx4 hd2
 go_upto_region 3 with fail
 generalize hGt:w3.heap.size=Gt at *
 generalize w3.alloc (.cells #[.int .i64 t.al,.int .i64 t.st,.slice C k c2] 38)=w4 at *
 have hne:Hid (Gs<Gt∧w.heap.size+3≤Gs):=za (by omega)
 clear hw1 hw3 hd1 hd3 hr3 hn1 hn2 hs2 hGs hGt
 go_wp2_with fail
 refine (zx ht2.at_.rd (by omega)).mono ?_
 rintro e w5 ⟨y,rfl,-,-,hr5,hd5⟩
 have ht3:=(ht2.drawn hd5 hr5).more (N:=M+60001) (J:=20000) (H:=16) (by omega) (by omega) (by omega)
 clear ht2
 go_upto_if 13 with fail
 go_cut [] (fun wx=>∃ (s:Sys) (A:Option Addr) (n c:Nat),Good s∧Tri w wx R (M+60001+30000) 20000 16 w.heap.size (w.heap.size+1+1) (w.heap.size+1) Gs Gt 0 s A n c t C k c2 autZ none 0 0 none 0 0)
 case first =>
  by_cases hy:y=0
  ·subst hy
   go_wp2_with fail
   refine (zgC hr5 (by omega)).mono ?_
   rintro e w6 ⟨s',A',n',c',rfl,hs',hg',hn',hr6,hd6⟩
   have ht4:=(ht3.drawn hd6 hr6).more (N:=M+60001+30000) (J:=20000) (H:=16) (by omega) (by omega) (by omega)
   have cG:=ht4.bs.cell
   have fG:=ht4.bs.frozen
   have fin:=ht4.setS hs' hn'
   go_wp2_with fail
   go_meet
   exact⟨_,_,_,_,hg',fin⟩
  ·have hy':((y:Int)==0)=false:=by simp;omega
   go_wp2_with fail
   go_meet
   exact⟨_,_,_,_,hg1,ht3.more (by omega) (by omega) (by omega)⟩
 case rest =>
  clear ht3 hr5 hd5 hg1
  obtain⟨s,A,n,c,hg1,ht3⟩:=hcut
  go_wp2_with fail
  refine (zx ht3.at_.rd (by omega)).mono ?_
  rintro e w5 ⟨y,rfl,-,-,hr5,hd5⟩
  have ht4:=(ht3.drawn hd5 hr5).more (N:=M+100000) (J:=20000) (H:=16) (by omega) (by omega) (by omega)
  clear ht3
  go_upto_if 18 with fail
  go_cut [] (fun wx=>∃ (t:Sys) (C:Option Addr) (k c2:Nat),Good t∧Tri w wx R (M+100000+30000) 20000 16 w.heap.size (w.heap.size+1+1) (w.heap.size+1) Gs Gt 0 s A n c t C k c2 autZ none 0 0 none 0 0)
  case first =>
   by_cases hy:y=0
   ·subst hy
    go_wp2_with fail
    refine (zgC ht4.at_.rd (by omega)).mono ?_
    rintro e w6 ⟨s',A',n',c',rfl,hs',hg',hn',hr6,hd6⟩
    have ht5:=(ht4.drawn hd6 hr6).more (N:=M+100000+30000) (J:=20000) (H:=16) (by omega) (by omega) (by omega)
    have cG:=ht5.bt.cell
    have fG:=ht5.bt.frozen
    have fin:=ht5.setT hs' hn'
    go_wp2_with fail
    go_meet
    exact⟨_,_,_,_,hg',fin⟩
   ·have hy':((y:Int)==0)=false:=by simp;omega
    go_wp2_with fail
    go_meet
    exact⟨_,_,_,_,hg2,ht4.more (by omega) (by omega) (by omega)⟩
  case rest =>
   clear ht4 hr5 hd5 hg2
   obtain⟨t,C,k,c2,hg2,ht4⟩:=hcut
   obtain⟨a1,p1,ha1,ha1',-⟩:=hg1
   obtain⟨a2,p2,ha2,ha2',-⟩:=hg2
   obtain⟨hor,hol⟩:=or_al ha1' ha2'
   obtain⟨wE,hwE⟩:∃ wE,wE=wc:=⟨_,rfl⟩
   subst hwE
   have hge:=za ht4.ge
   have hRw:=ht4.at_.hR
   have cS:∀ W,Frm (fun k=>k=R∨k=w.heap.size∨k=w.heap.size+1) wE W→∀ q,W.cell? ⟨Gs,q,none⟩=#[Value.int .i64 a1,.int .i64 s.st,.slice A n c][q]?:=fun W hW=>by rw [← ha1];exact (ht4.bs.frm hW (by have:=hge.out;have:=hne.out;omega)).cell
   have cT:∀ W,Frm (fun k=>k=R∨k=w.heap.size∨k=w.heap.size+1) wE W→∀ q,W.cell? ⟨Gt,q,none⟩=#[Value.int .i64 a2,.int .i64 t.st,.slice C k c2][q]?:=fun W hW=>by rw [← ha2];exact (ht4.bt.frm hW (by have:=hge.out;have:=hne.out;omega)).cell
   have hS0:Frm (fun k=>k=R∨k=w.heap.size∨k=w.heap.size+1) wE wE.drew:=(Ext.refl wE).drew.toFrm
   have hsal:=za ha1
   have htal:=za ha2
   clear ha1 ha2
   go_wp2_with fail
   refine tR (fun X=>Frm (fun k=>k=R∨k=w.heap.size∨k=w.heap.size+1) wE X) [11] (Ord.of [0,1,2,3,4,5,6,8,7,9,10,11]) ?_
   refine tQ ?_
   (refine zA rfl rfl rfl (fun K hK=>?_);go_simp)
   refine (zgG (ht4.at_.rd.ext (Ext.refl wE).drew) (by omega) hol).mono ?_
   rintro e w7 ⟨p,B,m,d,B',m',d',rfl,hp,hgp,hr7,hd7⟩
   have hd17:Dr R wE w7:=(Dr.refl R wE).drew.trans hd7
   have ht5:=(ht4.drawn hd17 hr7).more (N:=M+150000) (J:=20000) (H:=16) (by omega) (by omega) (by omega)
   have hS7:Frm (fun k=>k=R∨k=w.heap.size∨k=w.heap.size+1) wE w7:=hd17.mono (fun k _ hk=>.inl hk)
   refine hK.out _ _ hS7 ?_
   refine pT ?_
   refine tQ ?_
   have hsz7:=hd17.size
   have hRE:=ht4.at_.rd.lt
   have cs:=ht5.zs.cell
   have ct:=ht5.zt.cell
   have cp:=ht5.zp.cell
   have fs:=ht5.zs.frozen
   have ft:=ht5.zt.frozen
   have fp:=ht5.zp.frozen
   obtain⟨f1,f2⟩:=zbw.finSPT ({ ht5.at_ with ip:=hp.less (by simp;omega),bd:=za (BdA.of hgp.out) }) ht5.zs ht5.zt ht5.zp rfl rfl rfl (by omega) (by omega) (by omega) (by omega) (by omega) (by omega)
   rw [hsal.out,htal.out] at f1 f2
   (refine zA rfl rfl rfl (fun K hK=>?_);go_simp)
   have hS8:=hS7.trans ((zah w7 w.heap.size (.int .i64 a1) (.int .i64 s.st) (.slice A n c)).mono (T:=fun k=>k=R∨k=w.heap.size∨k=w.heap.size+1) (fun k _ hk=>.inr (.inl hk)))
   refine hK.out _ _ hS8 ?_
   refine pT ?_
   (refine zA rfl rfl rfl (fun K hK=>?_);go_simp)
   have hS9:=hS8.trans ((zah _ (w.heap.size+1) (.int .i64 p.al) (.slice B m d) (.slice B' m' d')).mono (T:=fun k=>k=R∨k=w.heap.size∨k=w.heap.size+1) (fun k _ hk=>.inr (.inr hk)))
   refine hK.out _ _ hS9 ?_
   refine pT ?_
   (refine zL rfl rfl rfl rfl (fun K hK=>?_))
   go_simp
   refine hK.out _ _ ?_
   refine zaj ?_
   go_wp2_with fail
   obtain⟨g1,g2,g3⟩:=f2.out
   have c1:=g1.cell
   have cc2:=g2.cell
   have c3:=g3.cell
   exact bodyPost_ret (v:=.tuple #[.agg #[.int .i64 a1,.int .i64 s.st,.slice A n c],.agg #[.int .i64 p.al,.slice B m d,.slice B' m' d'],.agg #[.int .i64 a2,.int .i64 t.st,.slice C k c2]]) (by simp [results,Tryz.results168,go_sem,c1,cc2,c3]) rfl ⟨s,A,n,c,t,C,k,c2,p,B,m,d,B',m',d',by rw [hsal.out,htal.out],f1.out⟩
end Go.Proofs.YtmjaepibdpfblaaGreatDoor
