/- spec.l13Draw -/
import Derived.Test.YtfcjhpodichpjaaGreatDoorU03
import Derived.Test.YtfcjhpodichpjaaGreatDoorU06
import Derived.Test.YtfcjhpodichpjaaGreatDoorU10
import Derived.Deep.CutBlock
import Derived.Deep.AppendLies
import Derived.Test.YtfcjhpodichpjaaGreatDoorU05
import Derived.Test.YtfcjhpodichpjaaGreatDoorU02
import Derived.Test.YtfcjhpodichpjaaGreatDoorU04
import Derived.Test.YtfcjhpodichpjaaGreatDoorU01
import Derived.Shelf.Strings.OnBuilder
import Derived.Lib.Join
import Derived.Lib.Atoi
import Derived.Lib.AtoiAll
import Derived.Shelf.Strconv.Itoa1
import Derived.RangeFuncFrom
set_option maxHeartbeats 6400000
set_option maxRecDepth 100000
namespace Go.Proofs.YtfcjhpodichpjaaGreatDoor
open Go Go.RowKit
structure zdw (w0 W:World) (R M K J:Nat) (a:Aut) (B:Option Addr) (m d:Nat) (B':Option Addr) (m' d':Nat) (x:ByteArray):Prop where
 own:zO W (R+1) B m d B' m' d' a
 bd:Hid (BdA K a∧x.size≤J)
 rd:Rd W R M
 dr:Dr R w0 W
 hR:R<w0.heap.size
def RetCe (R M K J:Nat) (w:World) (e:Ending) (w':World):Prop:=
 ∃ (hd:Bool) (a:Aut) (B:Option Addr) (m d:Nat) (B':Option Addr) (m' d':Nat) (x:ByteArray),e=.returned (.agg #[.bool hd,.int .i64 a.al,.slice B m d,.slice B' m' d',.string x])∧zdw w w' R M K J a B m d B' m' d' x
section
variable {w0 W W':World} {R M K J N H I Z m d m' d':Nat} {a:Aut} {B B':Option Addr} {x:ByteArray} {hd:Bool}
theorem zdw.drawn (h:zdw w0 W R M K J a B m d B' m' d' x)(hd:Dr R W W')(hr:Rd W' R N):zdw w0 W' R N K J a B m d B' m' d' x:=
 ⟨h.own.keep hd (fun b h1 e=>by omega),h.bd,hr,h.dr.trans hd,h.hR⟩
theorem zdw.ext (h:zdw w0 W R M K J a B m d B' m' d' x)(hx:Ext W W'):zdw w0 W' R M K J a B m d B' m' d' x:=h.drawn hx.dr (h.rd.ext hx)
theorem zdw.more (h:zdw w0 W R M K J a B m d B' m' d' x)(hM:M≤N)(hK:K≤H)(hJ:J≤I):zdw w0 W R N H I a B m d B' m' d' x:=
 ⟨h.own,za ⟨BdL.more h.bd.out.1 hK,Nat.le_trans h.bd.out.2 hJ⟩,h.rd.more hM,h.dr,h.hR⟩
theorem zdw.far {ty:TypeId} {cs:Array Value}(h:zdw w0 W R M K J a B m d B' m' d' x)(hB:Blk W Z ty cs)(hf:Frm (fun k=>k=Z) W W')(hZ:w0.heap.size≤Z)(h2:ty≠3∧ty≠74∧ty≠4):zdw w0 W' R M K J a B m d B' m' d' x:=
 ⟨h.own.farT hB hf h2,h.bd,h.rd.frm hf (fun k hk e=>by have:=h.hR;omega),h.dr.far hf hZ,h.hR⟩
theorem zdw.less {w1:World}(h:zdw w0 W R M K J a B m d B' m' d' x)(hd:Dr R w1 w0)(hR:R<w1.heap.size):zdw w1 W R M K J a B m d B' m' d' x:=
 ⟨h.own,h.bd,h.rd,hd.trans h.dr,hR⟩
theorem zdw.fin {us:Array Value}(h:zdw w0 W R M K J a B m d B' m' d' x)(hz:Blk W Z 28 us)(h5:us.size=5)(hZ:w0.heap.size≤Z) :
  Hid (RetCe R M K J w0 (.returned (.agg #[.bool hd,.int .i64 a.al,.slice B m d,.slice B' m' d',.string x])) (((((W.setCell ⟨Z,0,none⟩ (.bool hd)).setCell ⟨Z,1,none⟩ (.int .i64 a.al)).setCell ⟨Z,2,none⟩ (.slice B m d)).setCell ⟨Z,3,none⟩ (.slice B' m' d')).setCell ⟨Z,4,none⟩ (.string x))) ∧
  Hid (Blk (((((W.setCell ⟨Z,0,none⟩ (.bool hd)).setCell ⟨Z,1,none⟩ (.int .i64 a.al)).setCell ⟨Z,2,none⟩ (.slice B m d)).setCell ⟨Z,3,none⟩ (.slice B' m' d')).setCell ⟨Z,4,none⟩ (.string x)) Z 28 #[.bool hd,.int .i64 a.al,.slice B m d,.slice B' m' d',.string x]):=by
 have hf:=zW W Z (.bool hd) (.int .i64 a.al) (.slice B m d) (.slice B' m' d') (.string x)
 exact⟨za ⟨hd,a,B,m,d,B',m',d',x,rfl,h.far hz hf hZ (by decide)⟩,za (zA hz h5 _ _ _ _ _)⟩
end
theorem bd_valid {a:Aut}(h:zh a=true∨a=noA):BdA 12 a:=by
 rcases h with h|rfl
 ·obtain⟨h0,⟨h1,h2⟩,h3,h4⟩:=zx h
  refine⟨h2,by omega,fun l hl=>?_⟩
  obtain⟨q,hq⟩:=List.getElem?_of_mem hl
  rw [(h4 q l hq).1]
  exact Nat.le_trans (zq _ _) (by omega)
 ·exact⟨Nat.zero_le _,Nat.zero_le _,fun l hl=>by simp [noA] at hl⟩
theorem bd_autX (s t:Sys) (p:Aut):BdA 12 (autX (vpT s t p).code (vpT s t p).asm (vpT s t p).tr)∧(strX (vpT s t p).code (vpT s t p).asm (vpT s t p).tr).size≤4000:=by
 refine⟨?_,?_⟩
 ·unfold autX
  split
  ·exact bd_valid (vpT_asm s t p)
  ·exact bd_valid (.inr rfl)
 ·unfold strX
  split
  ·exact (zhH s t p).2
  ·exact Nat.zero_le _
theorem iface_and (s t:Sys) (p:Aut):∃ a:Nat,a<64∧bits .and .i64 (iface s p t) 63=(a:Int):=by
 rcases zcu s t p with h|⟨L,h⟩
 ·rw [h];exact⟨63,by omega,by decide⟩
 ·rw [h]
  exact⟨L&&&63,by have:=Nat.and_le_right (n:=L) (m:=63);omega,zdf (by have:=zgZ h;unfold Sm;omega) (by unfold Sm;decide)⟩
theorem sl_pairR {w:World} {R g n c k c2:Nat} {A C:Option Addr} {s t:Sys}(hb:Blk w g 39 #[.int .i64 s.al,.int .i64 s.st,.slice A n c,.int .i64 t.al,.int .i64 t.st,.slice C k c2])(hg:R<g)(h:zbd w R A n s)(h':zbd w R C k t):SLAt w (R+1) w.heap.size (some ⟨g,0,none⟩) 2 [s,t]:=by
 refine⟨rfl,[.int .i64 s.al,.int .i64 s.st,.slice A n c,.int .i64 t.al,.int .i64 t.st,.slice C k c2],⟨rfl,by omega,fun _=>⟨_,rfl,hg,hb.lt,fun j u hu=>?_⟩⟩,fun j u hu=>?_⟩
 ·rw [zH,Nat.zero_add,hb.cell]
  simpa using hu
 ·match j with
  |0 =>
   simp at hu;subst hu
   exact⟨A,n,c,rfl,rfl,rfl,h.at_⟩
  |1 =>
   simp at hu;subst hu
   exact⟨C,k,c2,rfl,rfl,rfl,h'.at_⟩
  |j+2=>simp at hu
theorem yU11a3 {P:Prop}(h:P:=by
 go_wp2_with fail
 have cf:=f2.out.cell
 exact bodyPost_ret (v:=.agg #[.bool false,.int .i64 0,.slice none 0 0,.slice none 0 0,.string x]) (by simp [results,Tryz.results35,go_sem,cf]) rfl f1.out
 ):P:=h
theorem zeM {R M L K n c k c2 m d m' d':Nat} {s t:Sys} {p:Aut} {A B B' C:Option Addr} {w:World}(h:zbg w w R M L K s A n c t C k c2 p B m d B' m' d')(hM:M≤600000000)(hL:L≤100000) :
  Calls Tryz.prog 35 #[.pointer (some ⟨R,0,none⟩),.agg #[.int .i64 s.al,.int .i64 s.st,.slice A n c],.agg #[.int .i64 t.al,.int .i64 t.st,.slice C k c2],.agg #[.int .i64 p.al,.slice B m d,.slice B' m' d']] w (RetCe R (M+1000) 16 4000 w):=by
 have hRl:=h.hR
 have hx0:Ext w ((((w.alloc (.cells #[.int .i64 s.al,.int .i64 s.st,.slice A n c] 39)).alloc (.cells #[.int .i64 t.al,.int .i64 t.st,.slice C k c2] 39)).alloc (.cells #[.int .i64 p.al,.slice B m d,.slice B' m' d'] 26)).alloc (.cells #[.bool false,.int .i64 0,.slice none 0 0,.slice none 0 0,.string ⟨#[]⟩] 28)):=((((Ext.refl _).alloc _).alloc _).alloc _).alloc _
 obtain⟨b1,b2,b3⟩:=zV ((Ext.refl _).alloc _:Ext (((w.alloc (.cells #[.int .i64 s.al,.int .i64 s.st,.slice A n c] 39)).alloc (.cells #[.int .i64 t.al,.int .i64 t.st,.slice C k c2] 39)).alloc (.cells #[.int .i64 p.al,.slice B m d,.slice B' m' d'] 26)) ((((w.alloc (.cells #[.int .i64 s.al,.int .i64 s.st,.slice A n c] 39)).alloc (.cells #[.int .i64 t.al,.int .i64 t.st,.slice C k c2] 39)).alloc (.cells #[.int .i64 p.al,.slice B m d,.slice B' m' d'] 26)).alloc (.cells #[.bool false,.int .i64 0,.slice none 0 0,.slice none 0 0,.string ⟨#[]⟩] 28)))
 have bz:=Blk.new (((w.alloc (.cells #[.int .i64 s.al,.int .i64 s.st,.slice A n c] 39)).alloc (.cells #[.int .i64 t.al,.int .i64 t.st,.slice C k c2] 39)).alloc (.cells #[.int .i64 p.al,.slice B m d,.slice B' m' d'] 26)) 28 #[.bool false,.int .i64 0,.slice none 0 0,.slice none 0 0,.string ⟨#[]⟩]
 simp only [World.size_alloc] at bz
 go_enter Tryz.func35,Tryz.ntmps35
 go_upto_region 1 with fail
 generalize (((w.alloc (.cells #[.int .i64 s.al,.int .i64 s.st,.slice A n c] 39)).alloc (.cells #[.int .i64 t.al,.int .i64 t.st,.slice C k c2] 39)).alloc (.cells #[.int .i64 p.al,.slice B m d,.slice B' m' d'] 26)).alloc (.cells #[.bool false,.int .i64 0,.slice none 0 0,.slice none 0 0,.string ⟨#[]⟩] 28)=w0 at *
 have ht0:=h.ext hx0
 have hz0:=bz.lt
 have cS:=b1.cell
 have cT:=b2.cell
 have cP:=b3.cell
 obtain⟨vhd,hvhd⟩:∃ v,hdX (vpT s t p).code (vpT s t p).asm (vpT s t p).tr=v:=⟨_,rfl⟩
 obtain⟨vau,hvau⟩:∃ v,autX (vpT s t p).code (vpT s t p).asm (vpT s t p).tr=v:=⟨_,rfl⟩
 obtain⟨vst,hvst⟩:∃ v,strX (vpT s t p).code (vpT s t p).asm (vpT s t p).tr=v:=⟨_,rfl⟩
 obtain⟨vok,hvok⟩:∃ v,okC (vpT s t p).code (vpT s t p).asm (vpT s t p).tr=v:=⟨_,rfl⟩
 have hC:=za (zeB (c:=c) (d:=d) (d':=d') (c2:=c2) ht0.is.at_ ht0.ip.reads ht0.it.at_ (by have:=ht0.ns;omega) (Nat.le_refl _))
 have hbv:=za (bd_autX s t p)
 rw [hvhd,hvau,hvst,hvok] at hC
 rw [hvau,hvst] at hbv
 clear hvhd hvau hvst hvok
 go_upto_region 2 with (first
  |(go_at_call 74;refine (hC.out).mono ?_;rintro e w1 ⟨D,q,f,D',q',f',rfl,ho,hx1⟩;clear cS cT cP))
 have hw1:=hx1.size
 have hx2:=(Ext.refl w1).alloc (.cells #[.bool vhd,.int .i64 vau.al,.slice D q f,.slice D' q' f',.string vst] 28)
 have bc:=Blk.new w1 28 #[.bool vhd,.int .i64 vau.al,.slice D q f,.slice D' q' f',.string vst]
 have hRw0:=ht0.rd.lt
 have hce:zdw w (w1.alloc (.cells #[.bool vhd,.int .i64 vau.al,.slice D q f,.slice D' q' f',.string vst] 28)) R M 12 4000 vau D q f D' q' f' vst:=⟨(ho.ext hx2).less (by omega),hbv,(ht0.rd.ext hx1).ext hx2,((ht0.dr.ext hx1).ext hx2),hRl⟩
 have ht2:=(ht0.ext hx1).ext hx2
 have hb12:=hx1.trans hx2
 replace b1:=b1.ext hb12
 replace b2:=b2.ext hb12
 replace b3:=b3.ext hb12
 replace bz:=bz.ext hb12
 clear ho hx2 hb12 ht0 hC
 generalize hG:w1.heap.size=G at *
 generalize w1.alloc (.cells #[.bool vhd,.int .i64 vau.al,.slice D q f,.slice D' q' f',.string vst] 28)=w2 at *
 go_wp2_with fail
 refine (zv ht2.rd (by omega)).mono ?_
 rintro e w3 ⟨y,rfl,-,-,hr3,hd3⟩
 have ht3:=ht2.drawn hd3 hr3
 replace hce:=hce.drawn hd3 hr3
 have hR3:=ht3.rd.lt
 replace b1:=b1.dr hd3 (by omega)
 replace b2:=b2.dr hd3 (by omega)
 replace b3:=b3.dr hd3 (by omega)
 replace bz:=bz.dr hd3 (by omega)
 replace bc:=bc.dr hd3 (by omega)
 have hHG:=za (show w.heap.size+4≤G by omega)
 clear ht2 hd3 hr3 hx1 hG hw1 hz0 hRw0
 by_cases hy0:y=0
 ·subst hy0
  have cS:=b1.cell
  have cT:=b2.cell
  have cP:=b3.cell
  obtain⟨al,ha,hal⟩:=iface_and s t p
  go_wp2_with fail
  refine (zbD (c:=c) (d1:=d) (d1':=d') (c2:=c2) ht3.is.at_ ht3.ip.reads ht3.it.at_).mono ?_
  rintro e w4 ⟨rfl,hx4⟩
  generalize iface s p t=ifc at *
  clear cS cT cP
  go_wp2_with fail
  refine (zfQ (ht3.rd.ext hx4) (by omega) ha).mono ?_
  rintro e w5 ⟨b,E,n5,c5,E',n5',c5',rfl,ho5,hg5,hr5,hd5⟩
  have hw4:=hx4.size
  have bz5:=(bz.ext hx4).dr hd5 (by omega)
  have hce5:zdw w w5 R (M+1+500) 16 0 b E n5 c5 E' n5' c5' ⟨#[]⟩:=⟨ho5.less (by omega),za ⟨BdA.of hg5.out,Nat.le_refl _⟩,hr5,(ht3.dr.ext hx4).trans hd5,hRl⟩
  obtain⟨f1,f2⟩:=(hce5.more (N:=M+1000) (H:=16) (I:=4000) (by omega) (by omega) (by omega)).fin (hd:=true) bz5 rfl (by omega)
  have cZ:=bz5.cell
  have fZ:=bz5.frozen
  clear bz5 hce5 ho5
  go_wp2_with fail
  have cf:=f2.out.cell
  exact bodyPost_ret (v:=.agg #[.bool true,.int .i64 b.al,.slice E n5 c5,.slice E' n5' c5',.string ⟨#[]⟩]) (by simp [results,Tryz.results35,go_sem,cf]) rfl f1.out
 by_cases hy1:y=1
 ·subst hy1
  have cS:=b1.cell
  have cT:=b2.cell
  go_upto_region 6 with fail
  have hx4:=(Ext.refl w3).alloc (.cells #[.int .i64 s.al,.int .i64 s.st,.slice A n c,.int .i64 t.al,.int .i64 t.st,.slice C k c2] 39)
  have bl:=Blk.new w3 39 #[.int .i64 s.al,.int .i64 s.st,.slice A n c,.int .i64 t.al,.int .i64 t.st,.slice C k c2]
  have hsl:=sl_pairR (R:=R) bl hR3 (ht3.is.ext hx4) (ht3.it.ext hx4)
  have ht4:=ht3.ext hx4
  replace bz:=bz.ext hx4
  have HT:=za (spec_l7Trace (c:=2) (q:=5) ht4.rd (by omega) hsl (by omega) (by omega))
  clear hsl bl
  go_wp2_with fail
  refine HT.out.mono ?_
  rintro e w5 ⟨x,rfl,hx,hr5,hd5⟩
  have hce5:zdw w w5 R (M+1+2*5+2) 0 5 autZ none 0 0 none 0 0 x:=⟨zhg _ _,za ⟨bd_autZ _,hx⟩,hr5,ht4.dr.trans hd5,hRl⟩
  have bz5:=bz.dr hd5 (by omega)
  obtain⟨f1,f2⟩:=(hce5.more (N:=M+1000) (H:=16) (I:=4000) (by omega) (by omega) (by omega)).fin (hd:=false) bz5 rfl (by omega)
  dsimp only [autZ] at f1 f2
  have cZ:=bz5.cell
  have fZ:=bz5.frozen
  clear bz5 hce5 cS cT
  exact yU11a3
 by_cases hy2:y=2
 ·subst hy2
  go_wp2_with fail
  refine (spec_l1Word (a:=7) (q:=4) ht3.rd (by omega) (by omega) (by omega)).mono ?_
  rintro e w5 ⟨x,rfl,hx,hr5,hd5⟩
  have hce5:zdw w w5 R (M+1+4+2) 0 5 autZ none 0 0 none 0 0 x:=⟨zhg _ _,za ⟨bd_autZ _,by omega⟩,hr5,ht3.dr.trans hd5,hRl⟩
  have bz5:=bz.dr hd5 (by omega)
  obtain⟨f1,f2⟩:=(hce5.more (N:=M+1000) (H:=16) (I:=4000) (by omega) (by omega) (by omega)).fin (hd:=false) bz5 rfl (by omega)
  dsimp only [autZ] at f1 f2
  have cZ:=bz5.cell
  have fZ:=bz5.frozen
  clear bz5 hce5
  exact yU11a3
 have h0:((y:Int)==0)=false:=by simp;omega
 have h1:((y:Int)==1)=false:=by simp;omega
 have h2:((y:Int)==2)=false:=by simp;omega
 clear b1 b2 b3 hy0 hy1 hy2 ht3
 go_upto_block 0 with fail
 go_cut [] (fun wx=>∃ (hd:Bool) (a:Aut) (B:Option Addr) (m d:Nat) (B':Option Addr) (m' d':Nat) (x:ByteArray),Blk wx G 28 #[.bool hd,.int .i64 a.al,.slice B m d,.slice B' m' d',.string x]∧Blk wx (w.heap.size+1+1+1) 28 #[.bool false,.int .i64 0,.slice none 0 0,.slice none 0 0,.string ⟨#[]⟩]∧zdw w wx R (M+1000) 16 4000 a B m d B' m' d' x)
 case first =>
  have cG:=bc.cell
  have fG:=bc.frozen
  have hGZ:G≠w.heap.size+1+1+1:=by have:=hHG.out;omega
  have hHG':=hHG.out
  by_cases hy3:y=3
  ·subst hy3
   cases vok
   ·go_wp2_with fail
    go_meet
    exact⟨_,_,_,_,_,_,_,_,_,bc,bz,hce.more (by omega) (by omega) (by omega)⟩
   ·cases vhd
    ·go_wp2_with fail
     go_meet
     exact⟨_,_,_,_,_,_,_,_,_,bc,bz,hce.more (by omega) (by omega) (by omega)⟩
    ·go_wp2_with fail
     refine (zeq hce.rd (by omega) hce.own hce.bd.out.1 (by omega)).mono ?_
     rintro e w5 ⟨b,E,n5,c5,E',n5',c5',rfl,ho5,hb5,hr5,hd5⟩
     have hce5:=hce.drawn hd5 hr5
     have bc5:=bc.dr hd5 (by omega)
     have bz5:=bz.dr hd5 (by omega)
     clear cG fG
     have cG:=bc5.cell
     have fG:=bc5.frozen
     have hf:Frm (fun k=>k=G) w5 (((w5.setCell ⟨G,1,none⟩ (.int .i64 b.al)).setCell ⟨G,2,none⟩ (.slice E n5 c5)).setCell ⟨G,3,none⟩ (.slice E' n5' c5')):=((Frm.setCell w5 G 1 _).trans (Frm.setCell _ G 2 _)).trans (Frm.setCell _ G 3 _)
     have hB:Blk (((w5.setCell ⟨G,1,none⟩ (.int .i64 b.al)).setCell ⟨G,2,none⟩ (.slice E n5 c5)).setCell ⟨G,3,none⟩ (.slice E' n5' c5')) G 28 #[.bool true,.int .i64 b.al,.slice E n5 c5,.slice E' n5' c5',.string vst]:=by
      simpa using ((bc5.set_ 1 (.int .i64 b.al)).set_ 2 (.slice E n5 c5)).set_ 3 (.slice E' n5' c5')
     have zhM:=(({ hce5 with own:=ho5.less (by omega),bd:=za ⟨hb5.out,hce.bd.out.2⟩ }:zdw w w5 R _ 13 4000 b E n5 c5 E' n5' c5' vst).far bc5 hf (by omega) (by decide)).more (N:=M+1000) (H:=16) (I:=4000) (by omega) (by omega) (by omega)
     have bz6:=bz5.frm hf (fun e=>hGZ e.symm)
     clear bc5 bz5 hf
     go_wp2_with fail
     go_meet
     exact⟨_,_,_,_,_,_,_,_,_,hB,bz6,zhM⟩
  ·have h3:((y:Int)==3)=false:=by simp;omega
   by_cases hy4:y=4
   ·subst hy4
    have hf:=Frm.setCell w3 G 0 (.bool (!vhd))
    have hB:Blk (w3.setCell ⟨G,0,none⟩ (.bool (!vhd))) G 28 #[.bool (!vhd),.int .i64 vau.al,.slice D q f,.slice D' q' f',.string vst]:=by
     simpa using bc.set_ 0 (.bool (!vhd))
    have zhM:=(hce.far bc hf (by omega) (by decide)).more (N:=M+1000) (H:=16) (I:=4000) (by omega) (by omega) (by omega)
    have bz6:=bz.frm hf (fun e=>hGZ e.symm)
    go_wp2_with fail
    go_meet
    exact⟨_,_,_,_,_,_,_,_,_,hB,bz6,zhM⟩
   ·have h4:((y:Int)==4)=false:=by simp;omega
    go_wp2_with fail
    go_meet
    exact⟨_,_,_,_,_,_,_,_,_,bc,bz,hce.more (by omega) (by omega) (by omega)⟩
 case rest =>
  clear hce bc bz
  obtain⟨hd,a,B,m,d,B',m',d',x,bc,bz,hce⟩:=hcut
  obtain⟨f1,f2⟩:=hce.fin (hd:=hd) bz rfl (by omega)
  have cG:=bc.cell
  have cZ:=bz.cell
  have fZ:=bz.frozen
  go_wp2_with fail
  have cf:=f2.out.cell
  exact bodyPost_ret (v:=.agg #[.bool hd,.int .i64 a.al,.slice B m d,.slice B' m' d',.string x]) (by simp [results,Tryz.results35,go_sem,cf]) rfl f1.out
theorem zeo {R M K J m d m' d':Nat} {a:Aut} {B B':Option Addr} {x:ByteArray} {hd:Bool} {w:World}(h:zdw w w R M K J a B m d B' m' d' x)(hM:M≤600000000)(hK:K≤60)(hJ:J≤5000) :
  Calls Tryz.prog 39 #[.pointer (some ⟨R,0,none⟩),.agg #[.bool hd,.int .i64 a.al,.slice B m d,.slice B' m' d',.string x]] w (RetCe R (M+100) (K+39) (J+1) w):=by
 have hRl:=h.hR
 obtain⟨b1,bz⟩:=zR (Ext.refl ((w.alloc (.cells #[.bool hd,.int .i64 a.al,.slice B m d,.slice B' m' d',.string x] 28)).alloc (.cells #[.bool false,.int .i64 0,.slice none 0 0,.slice none 0 0,.string ⟨#[]⟩] 28)))
 have hx0:Ext w ((w.alloc (.cells #[.bool hd,.int .i64 a.al,.slice B m d,.slice B' m' d',.string x] 28)).alloc (.cells #[.bool false,.int .i64 0,.slice none 0 0,.slice none 0 0,.string ⟨#[]⟩] 28)):=((Ext.refl w).alloc _).alloc _
 go_enter Tryz.func39,Tryz.ntmps39
 go_upto_region 1 with fail
 generalize (w.alloc (.cells #[.bool hd,.int .i64 a.al,.slice B m d,.slice B' m' d',.string x] 28)).alloc (.cells #[.bool false,.int .i64 0,.slice none 0 0,.slice none 0 0,.string ⟨#[]⟩] 28)=w0 at *
 have hce0:=h.ext hx0
 go_wp2_with fail
 refine (zv hce0.rd (by omega)).mono ?_
 rintro e w2 ⟨y,rfl,-,-,hr2,hd2⟩
 have hce:=hce0.drawn hd2 hr2
 have hsz:=hx0.size
 have hsz2:=hce.dr.size
 replace b1:=b1.dr hd2 (by omega)
 replace bz:=bz.dr hd2 (by omega)
 clear hce0 hd2 hr2 hx0 h
 go_upto_block 0 with fail
 go_cut [] (fun wx=>∃ (a:Aut) (B:Option Addr) (m d:Nat) (B':Option Addr) (m' d':Nat) (x:ByteArray),Blk wx w.heap.size 28 #[.bool hd,.int .i64 a.al,.slice B m d,.slice B' m' d',.string x]∧Blk wx (w.heap.size+1) 28 #[.bool false,.int .i64 0,.slice none 0 0,.slice none 0 0,.string ⟨#[]⟩]∧zdw w wx R (M+100) (K+39) (J+1) a B m d B' m' d' x)
 case first =>
  have cG:=b1.cell
  have hcases:y=0∨y=1∨y=2∨3≤y:=by omega
  rcases hcases with hy|hy|hy|hy
  ·subst hy
   have hy0:True:=trivial
   go_wp2_with fail
   refine (zcY hce.rd (by omega) hce.own hce.bd.out.1 (by omega)).mono ?_
   rintro e v1 ⟨a1,A1,n1,d1,B1,m1,e1,rfl,ho1,hb1,hr1,hd1⟩
   have hce1:=hce.drawn hd1 hr1
   have hq1:=hce.rd.lt
   have hq2:=hce1.rd.lt
   clear cG
   go_wp2_with fail
   refine (zcY hr1 (by omega) (ho1.less (by omega)) hb1.out (by omega)).mono ?_
   rintro e v2 ⟨a2,A2,n2,d2,B2,m2,e2,rfl,ho2,hb2,hr2,hd2⟩
   have hce2:=hce1.drawn hd2 hr2
   have hq3:=hce2.rd.lt
   go_wp2_with fail
   refine (zcY hr2 (by omega) (ho2.less (by omega)) hb2.out (by omega)).mono ?_
   rintro e v3 ⟨a3,A3,n3,d3,B3,m3,e3,rfl,ho3,hb3,hr3,hd3⟩
   have hce3:=hce2.drawn hd3 hr3
   have bc5:=((b1.dr hd1 (by omega)).dr hd2 (by omega)).dr hd3 (by omega)
   have bz5:=((bz.dr hd1 (by omega)).dr hd2 (by omega)).dr hd3 (by omega)
   have cG:=bc5.cell
   have fG:=bc5.frozen
   have hf:Frm (fun k=>k=w.heap.size) v3 (((v3.setCell ⟨w.heap.size,1,none⟩ (.int .i64 a3.al)).setCell ⟨w.heap.size,2,none⟩ (.slice A3 n3 d3)).setCell ⟨w.heap.size,3,none⟩ (.slice B3 m3 e3)):=((Frm.setCell v3 w.heap.size 1 _).trans (Frm.setCell _ w.heap.size 2 _)).trans (Frm.setCell _ w.heap.size 3 _)
   have hB:Blk (((v3.setCell ⟨w.heap.size,1,none⟩ (.int .i64 a3.al)).setCell ⟨w.heap.size,2,none⟩ (.slice A3 n3 d3)).setCell ⟨w.heap.size,3,none⟩ (.slice B3 m3 e3)) w.heap.size 28 #[.bool hd,.int .i64 a3.al,.slice A3 n3 d3,.slice B3 m3 e3,.string x]:=by
    simpa using ((bc5.set_ 1 (.int .i64 a3.al)).set_ 2 (.slice A3 n3 d3)).set_ 3 (.slice B3 m3 e3)
   have zhM:=(({ hce3 with own:=ho3.less (by omega),bd:=za ⟨hb3.out,hce.bd.out.2⟩ }:zdw w v3 R _ (K+13+13+13) J a3 A3 n3 d3 B3 m3 e3 x).far bc5 hf (by omega) (by decide)).more (N:=M+100) (H:=K+39) (I:=J+1) (by omega) (by omega) (by omega)
   have bz6:=bz5.frm hf (by omega)
   clear bc5 bz5 hf
   go_wp2_with fail
   go_meet
   exact⟨_,_,_,_,_,_,_,_,hB,bz6,zhM⟩
  ·subst hy
   have hy0:True:=trivial
   have hxs:=hce.bd.out.2
   have hKle:K≤K+39:=by omega
   generalize hK9:K+39=K9 at *
   have cG':∀ W,Dr R w2 W→∀ q,W.cell? ⟨w.heap.size,q,none⟩=#[Value.bool hd,.int .i64 a.al,.slice B m d,.slice B' m' d',.string x][q]?:=fun W hW=>(b1.dr hW (by omega)).cell
   clear cG
   go_wp2_with fail
   refine tR (fun X=>Dr R w2 X) [7] (Ord.of [0,1,2,3,4,5,6,7]) ?_
   refine tQ ?_
   refine zG fun K hK=>?_;go_simp
   refine hK.out _ _ ((Dr.refl R w2).drew.alloc _) ?_
   refine pT ?_
   refine zG fun K hK=>?_;go_simp
   have hxd:=(Ext.refl w2).drew
   have zhJ:=zaF w2.drew (us:=#[.string ⟨#[103]⟩,.string ⟨#[97]⟩,.string ⟨#[45]⟩]) (n:=3) rfl rfl (by omega)
   have hq1:=hce.rd.lt
   refine (zhd ((hce.rd.ext hxd).ext ((Ext.refl _).alloc _)) (by omega) (Reads.of_own zhJ) (by show R<w2.drew.heap.size;exact hq1) (by omega)).mono ?_
   rintro e w4 ⟨u,hu,rfl,hr4,hd4⟩
   have hd24:Dr R w2 w4:=((Dr.refl R w2).drew.alloc _).trans hd4
   have hus:u.size≤1:=by
    simp [zgp] at hu
    rcases hu with rfl|rfl|rfl<;>decide
   have hxu:¬ (9223372036854775807<x.size+u.size):=by omega
   refine hK.out _ _ hd24 ?_
   refine pT ?_
   refine tQ ?_
   have hce4:=hce.drawn hd24 hr4
   have bc5:=b1.dr hd24 (by omega)
   have bz5:=bz.dr hd24 (by omega)
   have fG:=bc5.frozen
   have hf:=Frm.setCell w4 w.heap.size 4 (.string (x++u))
   have hB:Blk (w4.setCell ⟨w.heap.size,4,none⟩ (.string (x++u))) w.heap.size 28 #[.bool hd,.int .i64 a.al,.slice B m d,.slice B' m' d',.string (x++u)]:=by
    simpa using bc5.set_ 4 (.string (x++u))
   have zhM:=(({ hce4 with bd:=za ⟨hce.bd.out.1,by rw [ByteArray.size_append];omega⟩ }:zdw w w4 R _ _ (J+1) a B m d B' m' d' (x++u)).far bc5 hf (by omega) (by decide)).more (N:=M+100) (H:=K9) (I:=J+1) (by omega) hKle (by omega)
   have bz6:=bz5.frm hf (by omega)
   refine zal fun K hK=>?_
   go_simp
   refine hK.out _ _ ?_
   refine zay ?_
   clear bc5 bz5 hf
   go_wp2_with fail
   go_meet
   exact⟨_,_,_,_,_,_,_,_,hB,bz6,zhM⟩
  ·subst hy
   have hy0:True:=trivial
   have fG:=b1.frozen
   have hf:Frm (fun k=>k=w.heap.size) w2 (((w2.setCell ⟨w.heap.size,1,none⟩ (.int .i64 1)).setCell ⟨w.heap.size,2,none⟩ (.slice none 0 0)).setCell ⟨w.heap.size,3,none⟩ (.slice none 0 0)):=((Frm.setCell w2 w.heap.size 1 _).trans (Frm.setCell _ w.heap.size 2 _)).trans (Frm.setCell _ w.heap.size 3 _)
   have hB:Blk (((w2.setCell ⟨w.heap.size,1,none⟩ (.int .i64 1)).setCell ⟨w.heap.size,2,none⟩ (.slice none 0 0)).setCell ⟨w.heap.size,3,none⟩ (.slice none 0 0)) w.heap.size 28 #[.bool hd,.int .i64 (⟨1,[],[]⟩:Aut).al,.slice none 0 0,.slice none 0 0,.string x]:=by
    simpa using ((b1.set_ 1 (.int .i64 1)).set_ 2 (.slice none 0 0)).set_ 3 (.slice none 0 0)
   have zhM:=(({ hce with own:=⟨⟨[],World.ownsRow_nil _ _ _ _,zy.nil _ _⟩,rfl,World.ownsRow_nil _ _ _ _,rfl⟩,bd:=za ⟨⟨Nat.zero_le _,Nat.zero_le _,fun l hl=>by simp at hl⟩,hce.bd.out.2⟩ }:zdw w w2 R _ K J ⟨1,[],[]⟩ none 0 0 none 0 0 x).far b1 hf (by omega) (by decide)).more (N:=M+100) (H:=K+39) (I:=J+1) (by omega) (by omega) (by omega)
   have bz6:=bz.frm hf (by omega)
   go_wp2_with fail
   go_meet
   exact⟨_,_,_,_,_,_,_,_,hB,bz6,zhM⟩
  ·have h0:((y:Int)==0)=false:=by simp;omega
   have h1:((y:Int)==1)=false:=by simp;omega
   have h2:((y:Int)==2)=false:=by simp;omega
   go_wp2_with fail
   go_meet
   exact⟨_,_,_,_,_,_,_,_,b1,bz,hce.more (by omega) (by omega) (by omega)⟩
 case rest =>
  clear hce b1 bz hsz2
  obtain⟨a,B,m,d,B',m',d',x,bc,bz,hce⟩:=hcut
  obtain⟨f1,f2⟩:=hce.fin (hd:=hd) bz rfl (by omega)
  have cG:=bc.cell
  have cZ:=bz.cell
  have fZ:=bz.frozen
  go_wp2_with fail
  have cf:=f2.out.cell
  exact bodyPost_ret (v:=.agg #[.bool hd,.int .i64 a.al,.slice B m d,.slice B' m' d',.string x]) (by simp [results,Tryz.results39,go_sem,cf]) rfl f1.out
theorem zO.at_new {w:World} {base lo:Nat} {A:Option Addr} {n c:Nat} {A':Option Addr} {n' c':Nat} {a:Aut}(h:zO w base A n c A' n' c' a)(hl:lo≤base):zM w lo w.heap.size A n A' n' a:=(h.less hl).reads
def RetDV (w:World) (e:Ending) (w':World):Prop:=
 ∃ (hd:Bool) (a:Aut) (D:Option Addr) (q f:Nat) (D':Option Addr) (q' f':Nat) (x:ByteArray),e=.returned (.agg #[.bool hd,.int .i64 a.al,.slice D q f,.slice D' q' f',.string x])∧zM w' w.heap.size w'.heap.size D q D' q' a∧Hid (BdA 100 a∧x.size≤5000)∧Ext w w'
theorem draw_dv {R N H J q f q' f':Nat} {a:Aut} {D D':Option Addr} {x:ByteArray} {w w1 W W':World} {S:Nat→Prop}(hx:Ext w w1)(hR:w.heap.size≤R)(hC:zdw w1 W R N H J a D q f D' q' f' x)
  (hF:Frm S W W') (hS:∀ k,S k→w.heap.size≤k∧k<R) (hH:H≤100) (hJ:J≤5000):zM W' w.heap.size W'.heap.size D q D' q' a∧Hid (BdA 100 a∧x.size≤5000)∧Ext w W':=by
 have hxW:Ext w W:=Dr.new hx hR hC.dr
 have i4:=hC.own.keep hF (fun k h1 hk=>by have:=hS k hk;omega)
 exact⟨i4.at_new (by omega),za ⟨BdL.more hC.bd.out.1 hH,Nat.le_trans hC.bd.out.2 hJ⟩,hxW.frm hF (fun k hk hk2=>by have:=hS k hk2;omega)⟩
theorem zcc {A0:Option Addr} {n0 c0:Nat} {w:World}(h:Bytes w A0 n0)(hn:n0≤9223372036854775807)(hc:n0≤c0)(hc2:c0≤9223372036854775807) :
  Calls Tryz.prog 21 #[.slice A0 n0 c0] w (RetDV w):=by
 have hx0:Ext w (w.alloc (.cells #[.bool false,.int .i64 0,.slice none 0 0,.slice none 0 0,.string ⟨#[]⟩] 28)):=(Ext.refl _).alloc _
 have z4:=Blk.new w 28 #[.bool false,.int .i64 0,.slice none 0 0,.slice none 0 0,.string ⟨#[]⟩]
 have hsz:(w.alloc (.cells #[.bool false,.int .i64 0,.slice none 0 0,.slice none 0 0,.string ⟨#[]⟩] 28)).heap.size=w.heap.size+1:=by simp
 have hh:=za (h.ext hx0)
 clear h
 go_enter Tryz.func21,Tryz.ntmps21
 go_upto_region 1 with fail
 generalize w.alloc (.cells #[.bool false,.int .i64 0,.slice none 0 0,.slice none 0 0,.string ⟨#[]⟩] 28)=w0 at *
 go_wp2_with fail
 refine (zeN hh.out hn hc hc2).mono ?_
 rintro e w1 ⟨R,rfl,hR,hr1,hx1⟩
 have hx01:=hx0.trans hx1
 have hRl:=hr1.lt
 replace z4:=z4.ext hx1
 go_upto_region 3 with (first
  |(go_at_call 34;refine (zeL hr1 (by omega)).mono ?_;rintro e w2 ⟨s,A,n,c,t,C,k,c2,p,B,m,d,B',m',d',rfl,ht⟩))
 have hx2:Ext w2 (((w2.alloc (.cells #[.int .i64 s.al,.int .i64 s.st,.slice A n c] 39)).alloc (.cells #[.int .i64 t.al,.int .i64 t.st,.slice C k c2] 39)).alloc (.cells #[.int .i64 p.al,.slice B m d,.slice B' m' d'] 26)):=(((Ext.refl _).alloc _).alloc _).alloc _
 obtain⟨b1,b2,b3⟩:=zV (Ext.refl (((w2.alloc (.cells #[.int .i64 s.al,.int .i64 s.st,.slice A n c] 39)).alloc (.cells #[.int .i64 t.al,.int .i64 t.st,.slice C k c2] 39)).alloc (.cells #[.int .i64 p.al,.slice B m d,.slice B' m' d'] 26)))
 have hw2:=ht.dr.size
 replace z4:=(z4.dr ht.dr (by omega)).ext hx2
 have ht2:=ht.ext hx2
 clear ht hx2
 generalize w2.heap.size=G at *
 generalize ((w2.alloc (.cells #[.int .i64 s.al,.int .i64 s.st,.slice A n c] 39)).alloc (.cells #[.int .i64 t.al,.int .i64 t.st,.slice C k c2] 39)).alloc (.cells #[.int .i64 p.al,.slice B m d,.slice B' m' d'] 26)=w3 at *
 have cS:=b1.cell
 have cT:=b2.cell
 have cP:=b3.cell
 have HD:=za (zeM ht2.own (by omega) (by omega))
 go_upto_region 99 with fail
 refine HD.out.mono ?_
 rintro e w4 ⟨hd4,a4,D4,q4,f4,D4',q4',f4',x4,rfl,hc4⟩
 clear cS cT cP
 go_upto_region 99 with fail
 refine (zeo (hd:=hd4) ({ hc4 with dr:=Dr.refl _ _,hR:=hc4.rd.lt }:zdw w4 w4 R _ 16 4000 a4 D4 q4 f4 D4' q4' f4' x4) (by omega) (by omega) (by omega)).mono ?_
 rintro e w5 ⟨hd5,a5,D5,q5,f5,D5',q5',f5',x5,rfl,hc5⟩
 go_upto_region 99 with fail
 refine (zeo (hd:=hd5) ({ hc5 with dr:=Dr.refl _ _,hR:=hc5.rd.lt }:zdw w5 w5 R _ 55 4001 a5 D5 q5 f5 D5' q5' f5' x5) (by omega) (by omega) (by omega)).mono ?_
 rintro e w6 ⟨hd,a,D,q,f,D',q',f',x,rfl,hc6⟩
 have hce:=((hc6.less hc5.dr hc5.hR).less hc4.dr hc4.hR).less ht2.dr hRl
 replace z4:=((z4.dr hc4.dr (by omega)).dr hc5.dr (by omega)).dr hc6.dr (by omega)
 clear hc4 hc5 hc6 HD b1 b2 b3 ht2
 have k1:=z4.cell
 have g1:=z4.frozen
 have r4:=zA z4 rfl (.bool hd) (.int .i64 a.al) (.slice D q f) (.slice D' q' f') (.string x)
 have e1:=zW w6 w.heap.size (.bool hd) (.int .i64 a.al) (.slice D q f) (.slice D' q' f') (.string x)
 have zhM:=za (draw_dv hx01 (by omega) hce e1 (fun k hk=>by have hk':k=w.heap.size:=hk;omega) (by omega) (by omega))
 clear z4 e1 hce
 go_wp2_with fail
 have c4:=r4.cell
 exact bodyPost_ret (v:=.agg #[.bool hd,.int .i64 a.al,.slice D q f,.slice D' q' f',.string x]) (by simp [results,Tryz.results21,go_sem,c4]) rfl ⟨hd,a,D,q,f,D',q',f',x,rfl,zhM.out⟩
theorem zfw {α β:Type} {f:α→List β} {k:Nat}:∀ {l:List α},(∀ x∈l,(f x).length≤k)→(l.flatMap f).length≤l.length*k
 |[],_=>by simp
 |x :: l,h=>by
  have h1:=h x (by simp)
  have h2:=zfw (f:=f) (k:=k) (l:=l) (fun y hy=>h y (by simp [hy]))
  rw [List.flatMap_cons,List.length_append,List.length_cons,Nat.succ_mul]
  omega
theorem alX_len (al:Nat):(alX al).length≤6:=by
 unfold alX
 split
 ·simp
 ·rw [List.length_map]
  exact zq al 6
theorem zfB {r:List Nat}(hr:∀ x∈r,x<100):(zaQ r).length≤3*r.length:=by
 cases r with
 |nil=>simp [zaQ]
 |cons x r =>
  have h1:=dig_len (hr x (by simp))
  have h2:=zfw (f:=fun y=>44 :: Lib.decDigits y) (k:=3) (l:=r) (fun y hy=>by
   have:=dig_len (hr y (by simp [hy]))
   simp only [List.length_cons]
   omega)
  unfold zaQ keyL
  rw [List.length_append,List.length_cons]
  omega
theorem row_len {b:Bool} {r:List Int}(hr:RowS r)(h6:r.length≤6):(zgG b r).length≤19:=by
 have:=zfB hr.nat
 rw [List.length_map] at this
 unfold zgG
 rw [List.length_cons]
 omega
theorem zhG (a:Aut):(zcd a).length≤300:=by
 unfold zcd
 split
 ·rename_i h
  obtain⟨-,-,h2,h3,-,h5⟩:=zN h
  have h1:=alX_len a.al.toNat
  have h4:=zfw (f:=fun x=>(32:UInt8) :: x) (k:=20) (l:=zbO a) (fun x hx=>by
   obtain⟨p,hp,rfl⟩:=List.mem_map.1 hx
   have h6:=h5 p.1 (List.of_mem_zip hp).1
   have:=row_len (b:=p.2) h6.1 h6.2
   simp only [List.length_cons]
   omega)
  have h6:(zbO a).length≤12:=by
   unfold zbO
   rw [List.length_map,List.length_zip]
   omega
  have:(zbO a).length*20≤12*20:=Nat.mul_le_mul_right 20 h6
  rw [List.length_append]
  omega
 ·simp
theorem txtC_no {hd:Bool} {a:Aut} {s:ByteArray}(h:zw hd a s=false):zea hd a s=[]:=by
 unfold zea
 rw [h]
 rfl
theorem txtC_holds {a:Aut} {s:ByteArray}(h:zw true a s=true):zea true a s=zbw++zcd a:=by
 unfold zea
 rw [if_pos h]
 rfl
theorem zeF {a:Aut} {s:ByteArray}(h:zw false a s=true):zea false a s=zbV++zdc s:=by
 unfold zea
 rw [if_pos h]
 rfl
theorem zgK {s:ByteArray}(h:s.toList.isEmpty=true):zdc s=[45]:=by
 unfold zdc
 rw [h]
 rfl
theorem zgL {s:ByteArray}(h:s.toList.isEmpty=false):zdc s=s.data.toList:=by
 unfold zdc
 rw [h]
 rfl
theorem zao {lo hi:Nat} {A:Option Addr} {n c:Nat} {A':Option Addr} {n' c':Nat} {hd:Bool} {a:Aut} {s:ByteArray} {w:World}(h:zM w lo hi A n A' n' a)(hs:s.size≤2000000) :
  Calls Tryz.prog 9 #[.agg #[.bool hd,.int .i64 a.al,.slice A n c,.slice A' n' c',.string s]] w (zgO (zea hd a s) w):=by
 have HV:=za (fun W (hW:Ext w W)=>zag _ _ _ _ c _ _ c' hd _ s W (h.ext hW) (by omega))
 have HF:=za (fun W (hW:Ext w W)=>zbz (c:=c) (c':=c') (h.ext hW))
 have Hl:=za (zhG a)
 cases hv:zw hd a s
 ·rw [hv] at HV
  have H0:=za (txtC_no hv)
  clear h hv
  go_enter Tryz.func9,Tryz.ntmps9
  go_wp2_with (go_at_call 10;refine (HV.out _ ((Ext.refl _).alloc _)).mono ?_;rintro e w1 ⟨rfl,hx⟩)
  go_ret
  exact⟨_,rfl,za H0.out.symm,((Ext.refl _).alloc _).trans hx⟩
 ·rw [hv] at HV
  cases hd
  ·have H0:=za (zeF hv)
   clear h hv
   cases he:s.toList.isEmpty
   ·rw [zgL he] at H0
    have q0:¬ 9223372036854775807<6+s.size:=by omega
    go_enter Tryz.func9,Tryz.ntmps9
    go_wp2_with fail
    refine (HV.out _ ((Ext.refl _).alloc _)).mono ?_
    rintro e w1 ⟨rfl,hx⟩
    have b1:=zav hx
    have cb:=b1.cell
    have hw1:=((Ext.refl w).alloc _).trans hx
    go_wp2_with fail
    go_ret
    exact⟨_,rfl,za (by rw [H0.out];exact zcG rfl rfl),hw1⟩
   ·rw [zgK he] at H0
    go_enter Tryz.func9,Tryz.ntmps9
    go_wp2_with fail
    refine (HV.out _ ((Ext.refl _).alloc _)).mono ?_
    rintro e w1 ⟨rfl,hx⟩
    have b1:=zav hx
    have cb:=b1.cell
    have hw1:=((Ext.refl w).alloc _).trans hx
    go_wp2_with fail
    go_ret
    exact⟨_,rfl,za (by rw [H0.out];rfl),hw1⟩
  ·have H0:=za (txtC_holds hv)
   clear h hv
   go_enter Tryz.func9,Tryz.ntmps9
   go_wp2_with fail
   refine (HV.out _ ((Ext.refl _).alloc _)).mono ?_
   rintro e w1 ⟨rfl,hx⟩
   have b1:=zav hx
   have cb:=b1.cell
   have hw1:=((Ext.refl w).alloc _).trans hx
   go_wp2_with fail
   refine (HF.out _ hw1).mono ?_
   rintro e w2 ⟨t2,rfl,ht2,hx2⟩
   have hts:t2.size≤300:=by rw [zcZ ht2.out];exact Hl.out
   have q0:¬ 9223372036854775807<6+t2.size:=by omega
   go_wp2_with fail
   go_ret
   exact⟨_,rfl,za (by rw [H0.out];exact zcG rfl ht2.out),hw1.trans hx2⟩
theorem txtC_short (hd:Bool) (a:Aut) (x:ByteArray):(zea hd a x).length≤307+x.size:=by
 unfold zea
 split
 ·cases hd
  ·simp only [Bool.false_eq_true,if_false,List.length_append,zbV,List.length_cons,List.length_nil]
   unfold zdc
   split
   ·simp;omega
   ·have:x.data.toList.length=x.size:=rfl
    omega
  ·have:=zhG a
   simp only [if_true,List.length_append,zbw,List.length_cons,List.length_nil]
   omega
 ·simp
theorem txtC_word {hd:Bool} {a:Aut} {x:ByteArray}(h:zw hd a x=true):x.size≤(zea hd a x).length:=by
 have e:x.data.toList.length=x.size:=rfl
 cases hd
 ·rw [zeF h,List.length_append]
  unfold zdc
  split
  ·rename_i he
   rw [ByteArray.toList_eq,List.isEmpty_iff] at he
   rw [he] at e
   simp at e
   omega
  ·omega
 ·simp only [zw,if_true,Bool.and_eq_true] at h
  have he:=h.2
  rw [ByteArray.toList_eq,List.isEmpty_iff] at he
  rw [he] at e
  simp at e
  omega
def RetDT (w:World) (e:Ending) (w':World):Prop:=∃ t:ByteArray,e=.returned (.string t)∧t.size≤10000∧Ext w w'
theorem zgc {A0:Option Addr} {n0 c0:Nat} {w:World}(h:Bytes w A0 n0)(hn:n0≤9223372036854775807)(hc:n0≤c0)(hc2:c0≤9223372036854775807) :
  Calls Tryz.prog 6 #[.slice A0 n0 c0] w (RetDV w):=by
 have hx0:Ext w (w.alloc (.cells #[.bool false,.int .i64 0,.slice none 0 0,.slice none 0 0,.string ⟨#[]⟩] 28)):=(Ext.refl _).alloc _
 have bz:=Blk.new w 28 #[.bool false,.int .i64 0,.slice none 0 0,.slice none 0 0,.string ⟨#[]⟩]
 have hsz:(w.alloc (.cells #[.bool false,.int .i64 0,.slice none 0 0,.slice none 0 0,.string ⟨#[]⟩] 28)).heap.size=w.heap.size+1:=by simp
 have hh:=za (h.ext hx0)
 clear h
 go_enter Tryz.func6,Tryz.ntmps6
 go_upto_region 1 with fail
 generalize w.alloc (.cells #[.bool false,.int .i64 0,.slice none 0 0,.slice none 0 0,.string ⟨#[]⟩] 28)=w0 at *
 go_wp2_with fail
 refine (zcc hh.out hn hc hc2).mono ?_
 rintro e w1 ⟨hd,a,D,q,f,D',q',f',x,rfl,ha,hbd,hx1⟩
 replace bz:=bz.ext hx1
 have cz:=bz.cell
 have fz:=bz.frozen
 have r4:=zA bz rfl (.bool hd) (.int .i64 a.al) (.slice D q f) (.slice D' q' f') (.string x)
 have hf:=zW w1 w.heap.size (.bool hd) (.int .i64 a.al) (.slice D q f) (.slice D' q' f') (.string x)
 have hs1:=hx1.size
 have zhM:=za (show zM (((((w1.setCell ⟨w.heap.size,0,none⟩ (.bool hd)).setCell ⟨w.heap.size,1,none⟩ (.int .i64 a.al)).setCell ⟨w.heap.size,2,none⟩ (.slice D q f)).setCell ⟨w.heap.size,3,none⟩ (.slice D' q' f')).setCell ⟨w.heap.size,4,none⟩ (.string x)) w.heap.size (((((w1.setCell ⟨w.heap.size,0,none⟩ (.bool hd)).setCell ⟨w.heap.size,1,none⟩ (.int .i64 a.al)).setCell ⟨w.heap.size,2,none⟩ (.slice D q f)).setCell ⟨w.heap.size,3,none⟩ (.slice D' q' f')).setCell ⟨w.heap.size,4,none⟩ (.string x)).heap.size D q D' q' a from (ha.frm hf (fun k h1 h2 e=>by have e':k=w.heap.size:=e;omega)).more (by omega) hf.size)
 have hxf:=za ((hx0.trans hx1).frm hf (fun k hk e=>by have e':k=w.heap.size:=e;omega))
 clear bz hf ha
 go_wp2_with fail
 have c4:=r4.cell
 exact bodyPost_ret (v:=.agg #[.bool hd,.int .i64 a.al,.slice D q f,.slice D' q' f',.string x]) (by simp [results,Tryz.results6,go_sem,c4]) rfl ⟨hd,a,D,q,f,D',q',f',x,rfl,zhM.out,hbd,hxf.out⟩
theorem zgj {A0:Option Addr} {n0 c0:Nat} {w:World}(h:Bytes w A0 n0)(hn:n0≤9223372036854775807)(hc:n0≤c0)(hc2:c0≤9223372036854775807) :
  Calls Tryz.prog 13 #[.slice A0 n0 c0] w (RetDT w):=by
 go_enter Tryz.func13,Tryz.ntmps13
 go_wp2_with fail
 refine (zeN h hn hc hc2).mono ?_
 rintro e w1 ⟨R,rfl,hR,hr1,hx1⟩
 have hRl:=hr1.lt
 go_upto_region 3 with (first
  |(go_at_call 34;refine (zeL hr1 (by omega)).mono ?_;rintro e w2 ⟨s,A,n,c,t,C,k,c2,p,B,m,d,B',m',d',rfl,ht⟩))
 have hx2:Ext w2 (((w2.alloc (.cells #[.int .i64 s.al,.int .i64 s.st,.slice A n c] 39)).alloc (.cells #[.int .i64 t.al,.int .i64 t.st,.slice C k c2] 39)).alloc (.cells #[.int .i64 p.al,.slice B m d,.slice B' m' d'] 26)):=(((Ext.refl _).alloc _).alloc _).alloc _
 obtain⟨b1,b2,b3⟩:=zV (Ext.refl (((w2.alloc (.cells #[.int .i64 s.al,.int .i64 s.st,.slice A n c] 39)).alloc (.cells #[.int .i64 t.al,.int .i64 t.st,.slice C k c2] 39)).alloc (.cells #[.int .i64 p.al,.slice B m d,.slice B' m' d'] 26)))
 have hdr:=ht.dr.ext hx2
 have ht2:=ht.ext hx2
 clear ht hx2
 generalize w2.heap.size=G at *
 generalize ((w2.alloc (.cells #[.int .i64 s.al,.int .i64 s.st,.slice A n c] 39)).alloc (.cells #[.int .i64 t.al,.int .i64 t.st,.slice C k c2] 39)).alloc (.cells #[.int .i64 p.al,.slice B m d,.slice B' m' d'] 26)=w3 at *
 have cS:=b1.cell
 have cT:=b2.cell
 have cP:=b3.cell
 have HD:=za (zeM ht2.own (by omega) (by omega))
 go_upto_region 99 with fail
 refine HD.out.mono ?_
 rintro e w4 ⟨hd4,a4,D4,q4,f4,D4',q4',f4',x4,rfl,hc4⟩
 clear cS cT cP HD b1 b2 b3
 have hxs:=za hc4.bd.out.2
 have hr4:=hc4.rd
 have hdr4:=hdr.trans hc4.dr
 have hxs2:x4.size≤2000000:=Nat.le_trans hxs.out (by omega)
 have HF:=za (zao (c:=f4) (c':=f4') (hd:=hd4) hc4.own.reads hxs2)
 have hlen:=za (txtC_short hd4 a4 x4)
 have hR4:=hr4.lt
 clear hc4
 go_upto_region 99 with fail
 refine HF.out.mono ?_
 rintro e w5 ⟨t5,rfl,ht5,hx5⟩
 have h5:t5.size≤5000:=by
  have h1:=hlen.out
  have h2:=hxs.out
  have h3:=zcZ ht5.out
  omega
 have hr5:=hr4.ext hx5
 replace hdr4:=hdr4.ext hx5
 clear HF hlen hxs hxs2 ht5
 have hxW:∀ W,Dr R w5 W→Ext w W:=fun W hW=>Dr.new hx1 hR (hdr4.trans hW)
 go_upto_region 99 with fail
 refine (zv hr5 (by omega)).mono ?_
 rintro e w6 ⟨y,rfl,-,-,hr6,hd6⟩
 by_cases hy:y=0
 ·subst hy
  have hy0:True:=trivial
  go_wp2_with fail
  go_ret
  exact⟨t5,rfl,by omega,hxW _ hd6⟩
 have hy1:((y:Int)==0)=false:=by simp;omega
 go_upto_region 99 with fail
 refine (zv hr6 (by omega)).mono ?_
 rintro e w7 ⟨k,rfl,hk1,hk2,hr7,hd7⟩
 go_upto_region 99 with fail
 refine (zv hr7 (by omega)).mono ?_
 rintro e w8 ⟨n,rfl,hn1,-,hr8,hd8⟩
 have hd58:Dr R w5 w8:=(hd6.trans hd7).trans hd8
 have hkl:k≤t5.size:=by
  rcases Nat.eq_zero_or_pos t5.size with h|h
  ·have:=hk2 (by omega);omega
  ·have:=hk1 (by omega);omega
 have hn2:n<2:=by have:=hn1 (by omega);omega
 clear hk1 hk2 hn1 hy1 hy hd6 hd7 hd8 hr6 hr7
 go_upto_if 39 with fail
 go_cut [9] (fun s9 wx=>∃ n:Nat,s9=.int .i64 (n:Nat)∧k+n≤t5.size∧wx=w8)
 case first =>
  by_cases hc:t5.size<k+n
  ·have hc':((k:Int)+(n:Int))>(t5.size:Int):=by omega
   go_wp2_with fail
   go_meet
   exact⟨0,rfl,by omega,rfl⟩
  ·have hc':¬ (((k:Int)+(n:Int))>(t5.size:Int)):=by omega
   go_wp2_with fail
   go_meet
   exact⟨n,rfl,by omega,rfl⟩
 case rest =>
  clear hn2
  obtain⟨n,rfl,hkn,rfl⟩:=hcut
  have hk0:(0:Int)≤(k:Int):=by omega
  have hk3:(k:Int)≤(t5.size:Int):=by omega
  have hkn':(k:Int)+(n:Int)≤(t5.size:Int):=by omega
  have hkn0:(0:Int)≤(k:Int)+(n:Int):=by omega
  have hw1:IntKind.i64.wrap ((k:Int)+(n:Int))=(k:Int)+(n:Int):=by rw [IntKind.wrap_i64];omega
  have hxd:=(Ext.refl wc).drew
  go_wp2_with fail
  refine tR (fun X=>Dr R wc X) [] (Ord.of [0,1,2,3,7,8,9,10,11,4,5,6,12,13]) ?_
  refine tQ ?_
  refine zG fun K hK=>?_;go_simp
  refine hK.out _ _ ((Dr.refl R wc).drew.alloc _) ?_
  refine pT ?_
  refine zG fun K hK=>?_;go_simp
  have zhJ:=zaF wc.drew (us:=#[.string ⟨#[]⟩,.string ⟨#[32]⟩,.string ⟨#[97]⟩,.string ⟨#[45]⟩,.string ⟨#[104,111,108,100,115,32]⟩,.string ⟨#[48]⟩,.string ⟨#[102,97,105,108,115]⟩]) (n:=7) rfl rfl (by omega)
  have hq1:=hr8.lt
  change Calls Tryz.prog _ _ (wc.drew.alloc _) _
  refine (zhd ((hr8.ext hxd).ext ((Ext.refl _).alloc _)) (by omega) (Reads.of_own zhJ) (by show R<wc.drew.heap.size;exact hq1) (by omega)).mono ?_
  rintro e w9 ⟨u,hu,rfl,hr9,hd9⟩
  have hd59:Dr R wc w9:=((Dr.refl R wc).drew.alloc _).trans hd9
  have hus:u.size≤6:=by
   simp [zgp] at hu
   rcases hu with rfl|rfl|rfl|rfl|rfl|rfl|rfl<;>decide
  have he1:(t5.extract 0 k).size≤5000:=by rw [ByteArray.size_extract];omega
  have hq2:¬ 9223372036854775807<(t5.extract 0 k).size+u.size:=by omega
  have he2:(t5.extract (k+n) t5.size).size≤5000:=by rw [ByteArray.size_extract];omega
  have hkt:((k:Int)+(n:Int)).toNat=k+n:=by omega
  have he3:(t5.extract 0 k++u).size≤5006:=by rw [ByteArray.size_append];omega
  have hq3:¬ 9223372036854775807<(t5.extract 0 k++u).size+(t5.extract (k+n) t5.size).size:=by omega
  refine hK.out _ _ hd59 ?_
  refine pT ?_
  have hq4:¬ 9223372036854775807<k+u.size:=by omega
  have hq5:¬ 9223372036854775807<k+u.size+(t5.size - (k+n)):=by omega
  refine tQ ?_
  refine zay ?_
  go_wp2_with fail
  go_ret
  refine⟨_,rfl,?_,hxW _ (hd58.trans hd59)⟩
  simp only [ByteArray.size_append,ByteArray.size_extract]
  omega
structure Gro (w0 W:World) (G:Nat) (al:Int) (v:Value) (rows:List Value) (ls:List (List Int)) (vA:Value) (acc:List Bool):Prop where
 blk:Blk W G 26 #[.int .i64 al,v,vA]
 nx:W.ownsRow w0.heap.size 74 1 v ls.length rows
 rows:zy W w0.heap.size rows ls
 acc:W.ownsRow w0.heap.size 4 1 vA acc.length (zas acc)
 ext:Ext w0 W
 hG:w0.heap.size≤G
section
variable {w0 W W':World} {G N:Nat} {al:Int} {v vA:Value} {rows:List Value} {ls:List (List Int)} {acc:List Bool}
theorem Gro.more (h:Gro w0 W G al v rows ls vA acc)(hx:Ext W W'):Gro w0 W' G al v rows ls vA acc:=⟨h.blk.ext hx,ze h.nx hx,h.rows.ext hx,ze h.acc hx,h.ext.trans hx,h.hG⟩
theorem Gro.low (h:Gro w0 W G al v rows ls vA acc):∀ (i:Nat) (r:Value) (b:Nat),rows[i]?=some r→r.ownBlock=some b→b<W.heap.size:=fun i r b hr hb=>by
 obtain⟨l,_,ho⟩:=h.rows.row hr
 exact (ho.lt b hb).2
theorem Gro.pushRow {row:Value} {l:List Int} {g cap K:Nat}(h:Gro w0 W G al v rows ls vA acc)(hlow:∀ (i:Nat) (r:Value) (b:Nat),rows[i]?=some r→r.ownBlock=some b→b<K)(hK:w0.heap.size≤K)(hrow:W.ownsRow K 3 1 row l.length (ints l))
  (zhJ:W'.ownsRow w0.heap.size 74 1 (.slice (some ⟨g,0,none⟩) (ls.length+1) cap) (ls.length+1) (rows++[row]))
  (hg:W.grownBy W' v.ownBlock) (hat:v.ownBlock=some g∨g=W.heap.size+1) :
  Hid (W'.cell? ⟨G,1,none⟩=some v)∧W'.frozen? ⟨G,1,none⟩=false∧Gro w0 (W'.setCell ⟨G,1,none⟩ (.slice (some ⟨g,0,none⟩) (ls.length+1) cap)) G al (.slice (some ⟨g,0,none⟩) (ls.length+1) cap) (rows++[row]) (ls++[l]) vA acc:=by
 have hGG:=h.hG
 have hB:Blk W' G 26 #[.int .i64 al,v,vA]:=(hg.block G h.blk.lt (fun e=>zk h.nx h.blk (by decide) e.symm rfl)).trans h.blk
 have hgG:g≠G:=by
  rcases hat with h1|h1
  ·exact zk h.nx h.blk (by decide) h1
  ·have:=h.blk.lt;omega
 have hfr:Frm (fun k=>v.ownBlock=some k) W W':=Frm.of_grown hg
 have hdr:=h.ext.grown hg (fun k hk=>(h.nx.lt k hk).1)
 have hr1:=h.rows.snoc2 hlow hK hrow
 have hr2:zy W' w0.heap.size (rows++[row]) (ls++[l]):=hr1.frm hfr (fun i r b hr hb hS=>by
  obtain⟨l',_,ho⟩:=hr1.row hr
  exact zaq ho h.nx (by decide) hb hS)
 have zhK:W'.ownsRow w0.heap.size 4 1 vA acc.length (zas acc):=zd h.acc hfr (fun b hb hS=>zaq h.acc h.nx (by decide) hb hS)
 have hset:=Frm.setCell W' G 1 (.slice (some ⟨g,0,none⟩) (ls.length+1) cap)
 refine⟨hB.cell 1,hB.frozen 1,⟨by simpa using hB.set_ 1 _,?_,?_,?_,hdr.setCell (p:=⟨G,1,none⟩) hGG _,hGG⟩⟩
 ·rw [List.length_append,List.length_singleton]
  exact zd zhJ hset (fun b hv hS=>by
   have:g=b:=by simpa [Value.ownBlock] using hv
   omega)
 ·refine hr2.frm hset (fun i r b hr hb hS=>?_)
  obtain⟨l',_,ho⟩:=hr2.row hr
  exact zk ho hB (by decide) hb hS
 ·exact zd zhK hset (fun b hb hS=>zk zhK hB (by decide) hb hS)
theorem Gro.pushAcc {x:Bool} {g cap:Nat}(h:Gro w0 W G al v rows ls vA acc)
  (zhJ:W'.ownsRow w0.heap.size 4 1 (.slice (some ⟨g,0,none⟩) (acc.length+1) cap) (acc.length+1) (zas acc++[.bool x]))
  (hg:W.grownBy W' vA.ownBlock) (hat:vA.ownBlock=some g∨g=W.heap.size+1) :
  Hid (W'.cell? ⟨G,2,none⟩=some vA)∧W'.frozen? ⟨G,2,none⟩=false∧Gro w0 (W'.setCell ⟨G,2,none⟩ (.slice (some ⟨g,0,none⟩) (acc.length+1) cap)) G al v rows ls (.slice (some ⟨g,0,none⟩) (acc.length+1) cap) (acc++[x]):=by
 have hGG:=h.hG
 have hB:Blk W' G 26 #[.int .i64 al,v,vA]:=(hg.block G h.blk.lt (fun e=>zk h.acc h.blk (by decide) e.symm rfl)).trans h.blk
 have hgG:g≠G:=by
  rcases hat with h1|h1
  ·exact zk h.acc h.blk (by decide) h1
  ·have:=h.blk.lt;omega
 have hfr:Frm (fun k=>vA.ownBlock=some k) W W':=Frm.of_grown hg
 have hdr:=h.ext.grown hg (fun k hk=>(h.acc.lt k hk).1)
 have hn:W'.ownsRow w0.heap.size 74 1 v ls.length rows:=zd h.nx hfr (fun b hb hS=>zaq h.nx h.acc (by decide) hb hS)
 have hr2:zy W' w0.heap.size rows ls:=h.rows.frm hfr (fun i r b hr hb hS=>by
  obtain⟨l',_,ho⟩:=h.rows.row hr
  exact zaq ho h.acc (by decide) hb hS)
 have hset:=Frm.setCell W' G 2 (.slice (some ⟨g,0,none⟩) (acc.length+1) cap)
 refine⟨hB.cell 2,hB.frozen 2,⟨by simpa using hB.set_ 2 _,zd hn hset (fun b hb hS=>zk hn hB (by decide) hb hS),hr2.frm hset (fun i r b hr hb hS=>?_),?_,hdr.setCell (p:=⟨G,2,none⟩) hGG _,hGG⟩⟩
 ·obtain⟨l',_,ho⟩:=hr2.row hr
  exact zk ho hB (by decide) hb hS
 ·rw [List.length_append,List.length_singleton,show zas (acc++[x])=zas acc++[.bool x] by simp [zas]]
  exact zd zhJ hset (fun b hv hS=>by
   have:g=b:=by simpa [Value.ownBlock] using hv
   omega)
theorem Gro.fin {w W2:World} {n n' c c':Nat} {A A':Option Addr}(h:Gro w0 W G al (.slice A n c) rows ls (.slice A' n' c') acc)(hx:Ext w w0)(hF:Frm (fun k=>w.heap.size≤k∧k<w0.heap.size) W W2) :
  zO W2 w.heap.size A n c A' n' c' ⟨al,ls,acc⟩∧n=ls.length∧n'=acc.length:=by
 have hn:n=ls.length:=by
  rcases h.nx.2 with ⟨h1,h2⟩|⟨_,_,_,h1,_⟩
  ·simp at h1;omega
  ·simp at h1;exact h1.2.1
 have hn':n'=acc.length:=by
  rcases h.acc.2 with ⟨h1,h2⟩|⟨_,_,_,h1,_⟩
  ·simp at h1;omega
  ·simp at h1;exact h1.2.1
 refine⟨⟨⟨rows,?_,?_⟩,hn,?_,hn'⟩,hn,hn'⟩
 ·exact zl (zaN h.nx hF (fun b h1 e=>by omega)) hx.size
 ·exact (h.rows.keep hF (fun b h1 e=>by omega)).less hx.size
 ·have ho:=zl (zaN h.acc hF (fun b h1 e=>by omega)) hx.size
  rw [← hn'] at ho;exact ho
end
theorem dig_form {n:Nat}(hn:n<100) {s:ByteArray}(h:s.data.toList=Lib.decDigits n):∃ d:List Nat,d.length=s.size∧1≤d.length∧d.length≤2∧(∀ (k:Nat)(hk:k<s.size),∃ x,d[k]?=some x∧x<10∧s[k].toNat=48+x)∧d.foldl (fun a x=>a*10+x) 0=n∧(1<d.length→d[0]?≠some 0):=by
 have hs:s.size=(Lib.decDigits n).length:=by rw [← h,Array.length_toList];rfl
 by_cases h1:n<10
 ·rw [Lib.decDigits_one h1] at h hs
  refine⟨[n],by rw [hs];rfl,by simp,by simp,fun k hk=>?_,by simp,by simp⟩
  have hk0:k=0:=by simp at hs;omega
  subst hk0
  have hb:=zaB s 0 hk
  rw [h] at hb
  refine⟨n,rfl,h1,?_⟩
  rw [← Option.some.inj hb]
  simp
  omega
 ·rw [Lib.decDigits_two h1 hn] at h hs
  refine⟨[n / 10,n % 10],by rw [hs];rfl,by simp,by simp,fun k hk=>?_,by simp;omega,by simp;omega⟩
  have hb:=zaB s k hk
  rw [h] at hb
  rcases Nat.lt_or_ge k 1 with g|g
  ·have hk0:k=0:=by omega
   subst hk0
   refine⟨n / 10,rfl,by omega,?_⟩
   rw [← Option.some.inj hb]
   simp
   omega
  ·have hk0:k=1:=by simp at hs;omega
   subst hk0
   refine⟨n % 10,rfl,by omega,?_⟩
   rw [← Option.some.inj hb]
   simp
   omega
theorem yU11a5 {P:Prop}(h:P:=by
 obtain rfl:k=s.size:=by omega
 obtain rfl:m=n:=by rw [hv.out,← Hs.out.2,List.take_length,Hf.out]
 go_wp2_with fail
 go_ret2
 exact⟨rfl,rfl⟩
 ):P:=h
theorem spec_l19NumD {n:Nat}(hn:n<100) {s:ByteArray} {w:World}(h:s.data.toList=Lib.decDigits n) :
  Calls Tryz.prog 120 #[.string s] w fun e w'=>e=.returned (.tuple #[.int .i64 n,.bool true])∧w=w':=by
 obtain⟨d,d1,d2,d3,d4,d5,d6⟩:=dig_form hn h
 have Hd:=za d4
 have Hf:=za d5
 have h0':0<s.size:=by omega
 obtain⟨x0,e0,l0,b0⟩:=d4 0 h0'
 have hm:((s[0].toNat:Int)==45)=false:=by rw [beq_eq_false_iff_ne];omega
 have z1':((s.size:Int)==0)=false:=by rw [beq_eq_false_iff_ne];omega
 have z2':(s.size:Int)≤17:=by omega
 have z3':((s[0].toNat:Int)==48)=true→(s.size:Int)≤1:=by
  intro h
  have h':(s[0].toNat:Int)=48:=eq_of_beq h
  rcases Nat.lt_or_ge 1 d.length with g|g
  ·exact absurd (by rw [e0];congr 1;omega) (d6 g)
  ·omega
 have Hs:=za (show s.size≤2∧d.length=s.size from ⟨by omega,d1⟩)
 clear h d1 d2 d3 d4 d5 d6 e0 l0 b0
 have key:∀ (b:Bool),((s[0].toNat:Int)==48)=b→Calls Tryz.prog 120 #[.string s] w fun e w'=>e=.returned (.tuple #[.int .i64 n,.bool true])∧w=w':=by
  intro b hb0
  cases b
  ·clear z3'
   go_enter Tryz.func120,Tryz.ntmps120
   go_wp2_with fail
   go_loop [5,6] (fun v i=>∃ (k m:Nat),k≤s.size∧i=.int .i64 k∧v=.int .i64 m∧(k=0∧m=0∨k=1∧m≤9∨k=2∧m≤99)∧Hid (m=(d.take k).foldl (fun a x=>a*10+x) 0)) (fun _ i=>s.size - (intOf i).toNat)
   case atStart=>exact⟨0,0,Nat.zero_le _,rfl,rfl,.inl ⟨rfl,rfl⟩,za rfl⟩
   case round =>
    obtain⟨k,m,hk,rfl,rfl,hkm,hv⟩:=hrel
    by_cases hlt:k<s.size
    ·obtain⟨x,e1,l1,b1⟩:=Hd.out k hlt
     have E1:=za e1
     have hm9:m≤9∧k≤1∧(k=0→m=0):=by have:=Hs.out.1;omega
     clear e1
     have c0:¬ (s[k].toNat:Int)<48:=by omega
     have c1:¬ 57<(s[k].toNat:Int):=by omega
     go_wp2_with fail
     go_round
     case rel=>exact⟨k+1,m*10+x,by omega,by go_num,by go_num,by omega,za (by rw [List.take_add_one,E1.out,List.foldl_append,← hv.out];rfl)⟩
     case measure=>simp [intOf];omega
    ·exact yU11a5
  ·have z4':=z3' hb0
   clear z3'
   go_enter Tryz.func120,Tryz.ntmps120
   go_wp2_with fail
   go_loop [5,6] (fun v i=>∃ (k m:Nat),k≤s.size∧i=.int .i64 k∧v=.int .i64 m∧(k=0∧m=0∨k=1∧m≤9∨k=2∧m≤99)∧Hid (m=(d.take k).foldl (fun a x=>a*10+x) 0)) (fun _ i=>s.size - (intOf i).toNat)
   case atStart=>exact⟨0,0,Nat.zero_le _,rfl,rfl,.inl ⟨rfl,rfl⟩,za rfl⟩
   case round =>
    obtain⟨k,m,hk,rfl,rfl,hkm,hv⟩:=hrel
    by_cases hlt:k<s.size
    ·obtain⟨x,e1,l1,b1⟩:=Hd.out k hlt
     have E1:=za e1
     have hm9:m≤9∧k≤1∧(k=0→m=0):=by have:=Hs.out.1;omega
     clear e1
     have c0:¬ (s[k].toNat:Int)<48:=by omega
     have c1:¬ 57<(s[k].toNat:Int):=by omega
     go_wp2_with fail
     go_round
     case rel=>exact⟨k+1,m*10+x,by omega,by go_num,by go_num,by omega,za (by rw [List.take_add_one,E1.out,List.foldl_append,← hv.out];rfl)⟩
     case measure=>simp [intOf];omega
    ·exact yU11a5
 exact key _ rfl
theorem spec_l19NumL {s:ByteArray} {w:World}(h:18<s.size)(hs:s.size≤2000000) :
  Calls Tryz.prog 120 #[.string s] w fun e w'=>e=.returned (.tuple #[.int .i64 0,.bool false])∧w=w':=by
 have h0':0<s.size:=by omega
 cases hm:((s[0].toNat:Int)==45)
 ·have z1':((s.size:Int)==0)=false:=by rw [beq_eq_false_iff_ne];omega
  have z2':(17:Int)<(s.size:Int):=by omega
  go_enter Tryz.func120,Tryz.ntmps120
  go_wp2
  go_ret2
  exact⟨rfl,rfl⟩
 ·obtain⟨y,hy⟩:∃ y,s.extract 1 s.size=y:=⟨_,rfl⟩
  have hyl:y.size=s.size - 1:=by rw [← hy,ByteArray.size_extract];omega
  have hyb:y.size≤2000000:=by omega
  have z1':((y.size:Int)==0)=false:=by rw [beq_eq_false_iff_ne];omega
  have z2':(17:Int)<(y.size:Int):=by omega
  have h01:(1:Int)≤(s.size:Int):=by omega
  clear hyl h
  go_enter Tryz.func120,Tryz.ntmps120
  go_wp2
  go_ret2
  exact⟨rfl,rfl⟩
def RetNumX (s:ByteArray) (w:World) (e:Ending) (w':World):Prop:=∃ (x:Int) (ok:Bool),e=.returned (.tuple #[.int .i64 x,.bool ok])∧w=w'∧Hid (∀ n<100,s.data.toList=Lib.decDigits n→ok=true∧x=n)
theorem spec_l19NumX {s:ByteArray} {w:World}(hs:s.size≤2000000) :
  Calls Tryz.prog 120 #[.string s] w (RetNumX s w):=by
 by_cases h:∃ n<100,s.data.toList=Lib.decDigits n
 ·obtain⟨n,hn,h⟩:=h
  refine (spec_l19NumD hn h).mono ?_
  rintro e w' ⟨rfl,rfl⟩
  exact⟨n,true,rfl,rfl,za fun m hm h2=>⟨rfl,by rw [dig_inj hn hm (h.symm.trans h2)]⟩⟩
 ·by_cases hl:18<s.size
  ·refine (spec_l19NumL hl hs).mono ?_
   rintro e w' ⟨rfl,rfl⟩
   exact⟨0,false,rfl,rfl,za fun m hm h2=>absurd ⟨m,hm,h2⟩ h⟩
  ·refine (zbR (s:=s) (by omega)).mono ?_
   rintro e w' ⟨x,ok,rfl,rfl⟩
   exact⟨x,ok,rfl,rfl,za fun m hm h2=>absurd ⟨m,hm,h2⟩ h⟩
def JoinOf (s:ByteArray) (ok:Bool) (l:List Int):Prop:=∀ r:List Nat,(∀ x∈r,x<100)→zaQ r=s.data.toList→ok=true∧l=r.map fun x:Nat=>(x:Int)
def RetIntsX (s:ByteArray) (w:World) (e:Ending) (w':World):Prop:=∃ (A:Option Addr) (n c:Nat) (l:List Int) (ok:Bool),e=.returned (.tuple #[.slice A n c,.bool ok])∧n=l.length∧w'.ownsRow w.heap.size 3 1 (.slice A n c) n (ints l)∧n≤s.size+1∧Hid (JoinOf s ok l)∧Ext w w'
theorem zfC {s:ByteArray} {l:List ByteArray}(h:l.map (fun x=>x.data.toList)=zbh 44 s.data.toList)(hne:s.data.toList≠[]) {r:List Nat}(hr:∀ x∈r,x<100)(hj:zaQ r=s.data.toList):l.map (fun x=>x.data.toList)=r.map Lib.decDigits:=by
 cases r with
 |nil=>exact absurd hj.symm hne
 |cons x r=>rw [h,← hj,join_cut (hr x (by simp)) (fun y hy=>hr y (by simp [hy]))]
theorem zgy {s:ByteArray} {l:List ByteArray}(h:l.map (fun x=>x.data.toList)=zbh 44 s.data.toList)(hne:s.data.toList≠[]) {r:List Nat}(hr:∀ x∈r,x<100)(hj:zaQ r=s.data.toList) {k:Nat} {y:ByteArray}(hy:l[k]?=some y):∃ x,r[k]?=some x∧x<100∧y.data.toList=Lib.decDigits x:=by
 have e:=congrArg (fun z:List (List UInt8)=>z[k]?) (zfC h hne hr hj)
 simp only [List.getElem?_map,hy,Option.map_some] at e
 cases hx:r[k]? with
 |none=>rw [hx] at e;cases e
 |some x =>
  rw [hx] at e
  exact⟨x,rfl,hr x (List.mem_of_getElem? hx),Option.some.inj e⟩
theorem join_size {s:ByteArray} {l:List ByteArray}(h:l.map (fun x=>x.data.toList)=zbh 44 s.data.toList)(hne:s.data.toList≠[]) {r:List Nat}(hr:∀ x∈r,x<100)(hj:zaQ r=s.data.toList):r.length=l.length:=by
 have:=congrArg List.length (zfC h hne hr hj)
 simpa using this.symm
theorem zez {s:ByteArray} {c:UInt8} {l:List ByteArray}(h:l.map (fun x=>x.data.toList)=zbh c s.data.toList):∀ x∈l,x.size≤s.size:=by
 have key:∀ (u:List UInt8),∀ x∈zbh c u,x.length≤u.length:=by
  intro u
  induction u with
  |nil=>intro x hx;simp [zbh] at hx;simp [hx]
  |cons b t ih =>
   intro x hx
   rw [zbh] at hx
   split at hx
   ·rcases List.mem_cons.1 hx with rfl|hx
    ·simp
    ·have:=ih x hx;simp;omega
   ·split at hx
    ·rw [List.mem_singleton.1 hx];simp
    ·rename_i h2 r2 hcut
     rw [hcut] at ih
     rcases List.mem_cons.1 hx with rfl|hx
     ·have:=ih h2 (by simp);simp;omega
     ·have:=ih x (by simp [hx]);simp;omega
 intro x hx
 have:=key s.data.toList x.data.toList (by rw [← h];exact List.mem_map_of_mem hx)
 simpa using this
theorem zcR {s:ByteArray}(h:s.toList.isEmpty=false):s.data.toList≠[]:=by
 rw [ByteArray.toList_eq] at h
 intro e
 rw [e] at h
 cases h
theorem zeh {s:ByteArray}(h:s.toList.isEmpty=true):s.data.toList=[]:=by
 rw [ByteArray.toList_eq] at h
 exact List.isEmpty_iff.1 h
theorem zhw {s:ByteArray} {w:World}(hs:s.size≤2000000) :
  Calls Tryz.prog 80 #[.string s] w (RetIntsX s w):=by
 have h0:=World.ownsRow_lit (base:=w.heap.size) (e:=3) (size:=1) w #[] 0 (Nat.le_refl _) (by unfold maxLen;omega) rfl
 have hx1:=(Ext.refl w).alloc (.cells #[] 3)
 go_enter Tryz.func80,Tryz.ntmps80
 go_upto_region 2 with fail
 obtain⟨K,hK⟩:∃ K,Hid (K=w.heap.size):=⟨_,za rfl⟩
 rw [← hK.out] at h0 ⊢
 generalize w.alloc (.cells #[] 3)=w1 at *
 cases he:s.toList.isEmpty
 ·have Hne:=za (zcR he)
  go_wp2_with fail
  refine (zhv (s:=s) (by omega)).mono ?_
  rintro e w2 ⟨B,m,d,l,rfl,hml,-,zhT,hm,hcut,hx2⟩
  have hw2:=hx1.trans hx2
  have h02:=ze h0 hx2
  have Hlx:=za (zez hcut.out)
  have Hml:=za hml
  have HP:=za (fun (r:List Nat) (hr:∀ x∈r,x<100) (hj:zaQ r=s.data.toList) (k:Nat) (y:ByteArray) (hy:l[k]?=some y)=>zgy hcut.out Hne.out hr hj hy)
  have HZ:=za (fun (r:List Nat) (hr:∀ x∈r,x<100) (hj:zaQ r=s.data.toList)=>join_size hcut.out Hne.out hr hj)
  have hm1:m≤s.size+1:=hm
  clear hml h0 he hm hcut
  go_wp2_with fail
  go_loopw [4,6] (fun v iv wr=>∃ (k:Nat) (ls:List Int),k≤m∧iv=.int .i64 (k:Nat)∧wr.ownsRow K 3 1 v k (ints ls)∧Hid (ls.length=k)∧Hid (∀ r:List Nat,(∀ x∈r,x<100)→zaQ r=s.data.toList→ls=(r.take k).map fun x:Nat=>(x:Int))∧wr.ownsRow w1.heap.size 9 1 (.slice B m d) m (zF l)∧Ext w wr) (fun _ iv _=>m - (intOf iv).toNat)
  case atStart=>exact⟨0,[],Nat.zero_le _,rfl,h02,za rfl,za (fun r _ _=>rfl),zhT,hw2⟩
  case round =>
   clear h02 zhT hw2 hx2
   obtain⟨k,ls,hk,rfl,hv,hll,hj,hstr,hw⟩:=hrel
   obtain⟨A5,c5,rfl⟩:=zf hv
   by_cases hlt:k<m
   ·obtain⟨gB,rfl,-,-⟩:=zP hstr (by omega)
    obtain⟨ad,xk,hae,-,-,hxk,hck⟩:=(Reads.of_own hstr).str hlt
    obtain rfl:=Option.some.inj hae
    rw [zH,Nat.zero_add] at hck
    have hbk:=za (Hlx.out xk (List.mem_of_getElem? hxk.out))
    have Hxk:=za hxk.out
    go_wp2_with fail
    refine (spec_l19NumX (s:=xk) (by have:=hbk.out;omega)).mono ?_
    rintro e w3 ⟨x,ok,rfl,rfl,hX⟩
    cases ok
    ·go_wp2_with fail
     exact bodyPost_ret (v:=.tuple #[.slice none 0 0,.bool false]) (by simp [results,Tryz.results80,go_sem]) rfl ⟨none,0,0,[],false,rfl,rfl,World.ownsRow_nil _ _ _ _,by omega,za (fun r hr h=>by
      obtain⟨x',h1,h2,h3⟩:=HP.out r hr h k xk Hxk.out
      exact absurd (hX.out x' h2 h3).1 (by decide)),hw⟩
    ·have hsz:=hw.size
     go_wp2_with (at_builtin;refine zab w wr rfl _ _ _ rfl 3 _ 1 8 Tryz.underlying74 zac rfl (by decide) (.slice A5 k c5) k (ints ls) _ _ rfl rfl hsz (by rw [← hK.out];exact hv) rfl (by simp [Value.oneCell']) (by unfold maxLen;omega) (by omega) ?_;intro g5 cap5 w5 zhV hg5 hat5 hlt5)
     go_roundw
     case rel=>exact⟨k+1,ls++[x],by omega,by go_num,by rw [hK.out];simpa [ints] using zhV,za (by have:=hll.out;simp;omega),za (fun r hr h=>by
      obtain⟨x',h1,h2,h3⟩:=HP.out r hr h k xk Hxk.out
      rw [hj.out r hr h,List.take_add_one,h1,(hX.out x' h2 h3).2,List.map_append]
      rfl),zd hstr (Frm.of_grown hg5) (fun b hb hS=>zaq hstr hv (by decide) hb hS),hw.grown hg5 (fun j hj=>by have:=(hv.lt j hj).1;have:=hK.out;omega)⟩
     case measure=>simp [intOf];omega
   ·obtain rfl:k=m:=by omega
    go_wp2_with fail
    exact bodyPost_ret (v:=.tuple #[.slice A5 k c5,.bool true]) (by simp [results,Tryz.results80,go_sem]) rfl ⟨A5,k,c5,ls,true,rfl,hll.out.symm,by rw [← hK.out];exact hv,hm1,za (fun r hr h=>⟨rfl,by
     rw [hj.out r hr h,List.take_of_length_le]
     have:=HZ.out r hr h
     have:=Hml.out
     omega⟩),hw⟩
 ·have He:=za (zeh he)
  go_wp2_with fail
  exact bodyPost_ret (v:=.tuple #[.slice (some ⟨K,0,none⟩) 0 0,.bool true]) (by simp [results,Tryz.results80,go_sem]) rfl ⟨some ⟨w.heap.size,0,none⟩,0,0,[],true,by rw [hK.out],rfl,by rw [hK.out] at h0;exact h0,by omega,za (fun r hr h=>⟨rfl,by rw [join_nil hr (h.trans He.out)];rfl⟩),hx1⟩
def RetAlX (x:ByteArray) (w:World) (e:Ending) (w':World):Prop:=∃ (a:Nat) (ok:Bool),e=.returned (.tuple #[.int .i64 a,.bool ok])∧a<64∧Hid (ok=true∧alX a=x.data.toList∨ok=false∧a=0∧∀ n<64,alX n≠x.data.toList)∧Ext w w'
theorem zdQ {x:ByteArray} {w:World} :
  Calls Tryz.prog 79 #[.string x] w (RetAlX x w):=by
 go_enter Tryz.func79,Tryz.ntmps79
 go_wp2_with fail
 go_loopw [4] (fun i wr=>∃ k:Nat,k≤64∧i=.int .i64 k∧Hid (∀ n<k,alX n≠x.data.toList)∧Ext w wr) (fun i _=>64 - (intOf i).toNat)
 case atStart=>exact⟨0,Nat.zero_le _,rfl,za (fun n hn=>by omega),Ext.refl _⟩
 case round =>
  obtain⟨k,hk,rfl,hno,zhL⟩:=hrel
  by_cases hlt:k<64
  ·go_wp2_with fail
   refine (zbH hlt).mono ?_
   rintro e w2 ⟨t,rfl,ht,hx2⟩
   cases hxt:t.toList==x.toList
   ·have hne:=za (show alX k≠x.data.toList by
     rw [ByteArray.toList_eq,ByteArray.toList_eq,ht.out] at hxt
     exact fun h=>by rw [h] at hxt;simp at hxt)
    go_wp2_with fail
    go_roundw
    case rel=>exact⟨k+1,by omega,by go_num,za (fun n hn=>by
     by_cases h:n=k
     ·rw [h];exact hne.out
     ·exact hno.out n (by omega)),zhL.trans hx2⟩
    case measure=>simp [intOf];omega
   ·have heq:=za (show alX k=x.data.toList by
     rw [ByteArray.toList_eq,ByteArray.toList_eq,ht.out] at hxt
     exact eq_of_beq hxt)
    go_wp2_with fail
    go_ret2
    exact⟨k,true,rfl,hlt,za (.inl ⟨rfl,heq.out⟩),zhL.trans hx2⟩
  ·obtain rfl:k=64:=by omega
   go_wp2_with fail
   go_ret2
   exact⟨0,false,rfl,by omega,za (.inr ⟨rfl,rfl,hno.out⟩),zhL⟩
def ParsX (x:ByteArray) (ok:Bool) (b:Aut):Prop:=ok=true∧zh b=true∧zcd b=x.data.toList∨ok=false∧b=⟨0,[],[]⟩∧∀ a,zh a=true→zcd a≠x.data.toList
def RetPX (x:ByteArray) (w:World) (e:Ending) (w':World):Prop:=
 ∃ (b:Aut) (A:Option Addr) (n c:Nat) (A':Option Addr) (n' c':Nat) (ok:Bool),e=.returned (.tuple #[.agg #[.int .i64 b.al,.slice A n c,.slice A' n' c'],.bool ok])∧zO w' w.heap.size A n c A' n' c' b∧Hid (ParsX x ok b)∧Ext w w'
theorem zcy {x:ByteArray} {w W:World} {Z:Nat}(hd:Ext w W)(hZ:w.heap.size≤Z)(hn:∀ a,zh a=true→zcd a≠x.data.toList) :
  RetPX x w (.returned (.tuple #[.agg #[.int .i64 0,.slice none 0 0,.slice none 0 0],.bool false])) (((W.setCell ⟨Z,0,none⟩ (.int .i64 0)).setCell ⟨Z,1,none⟩ (.slice none 0 0)).setCell ⟨Z,2,none⟩ (.slice none 0 0)):=
 ⟨⟨0,[],[]⟩,none,0,0,none,0,0,false,rfl,⟨⟨[],World.ownsRow_nil _ _ _ _,zy.nil _ _⟩,rfl,World.ownsRow_nil _ _ _ _,rfl⟩,za (.inr ⟨rfl,rfl,hn⟩),((hd.setCell (p:=⟨Z,0,none⟩) hZ _).setCell (p:=⟨Z,1,none⟩) hZ _).setCell (p:=⟨Z,2,none⟩) hZ _⟩
theorem zeG {x:ByteArray} {l:List ByteArray}(h:l.map (fun x=>x.data.toList)=zbh 32 x.data.toList) {a:Aut}(ha:zh a=true)(he:zcd a=x.data.toList):l.map (fun x=>x.data.toList)=alX a.al.toNat :: zbO a:=by
 rw [h,← he,txt_cut ha]
theorem txt_first {x x0:ByteArray} {l:List ByteArray}(h:l.map (fun x=>x.data.toList)=zbh 32 x.data.toList)(h0:l[0]?=some x0) {a:Aut}(ha:zh a=true)(he:zcd a=x.data.toList):x0.data.toList=alX a.al.toNat:=by
 have e:=congrArg (fun z:List (List UInt8)=>z[0]?) (zeG h ha he)
 simp only [List.getElem?_map,h0,Option.map_some,List.getElem?_cons_zero,Option.some.injEq] at e
 exact e
theorem txt_row {x y:ByteArray} {l:List ByteArray}(h:l.map (fun x=>x.data.toList)=zbh 32 x.data.toList) {i:Nat}(hi:1≤i)(h0:l[i]?=some y) {a:Aut}(ha:zh a=true)(he:zcd a=x.data.toList):∃ r b,a.next[i - 1]?=some r∧a.acc[i - 1]?=some b∧RowS r∧y.data.toList=zgG b r:=by
 have e:=congrArg (fun z:List (List UInt8)=>z[i]?) (zeG h ha he)
 obtain⟨j,rfl⟩:∃ j,i=j+1:=⟨i - 1,by omega⟩
 simp only [List.getElem?_map,h0,Option.map_some,List.getElem?_cons_succ] at e
 unfold zbO at e
 rw [List.getElem?_map] at e
 cases hz:(a.next.zip a.acc)[j]? with
 |none=>rw [hz] at e;cases e
 |some p =>
  rw [hz] at e
  obtain⟨h1,h2⟩:=List.getElem?_zip_eq_some.1 hz
  refine⟨p.1,p.2,h1,h2,((zN ha).2.2.2.2.2 p.1 (List.mem_of_getElem? h1)).1,Option.some.inj e⟩
theorem txt_count {x:ByteArray} {l:List ByteArray}(h:l.map (fun x=>x.data.toList)=zbh 32 x.data.toList) {a:Aut}(ha:zh a=true)(he:zcd a=x.data.toList):l.length=a.next.length+1:=by
 have:=congrArg List.length (zeG h ha he)
 have h3:=(zN ha).2.2.1
 simp only [List.length_map,List.length_cons,zbO,List.length_zip] at this
 omega
theorem first_ne {x x0:ByteArray} {l:List ByteArray}(h:l.map (fun x=>x.data.toList)=zbh 32 x.data.toList)(h0:l[0]?=some x0)(hx0:x0.data.toList≠[]):x.data.toList≠[]:=by
 intro e
 rw [e] at h
 have e2:=congrArg (fun z:List (List UInt8)=>z[0]?) h
 simp only [List.getElem?_map,h0,Option.map_some,zbh,List.getElem?_cons_zero,Option.some.injEq] at e2
 exact hx0 e2
theorem rest_list {s:ByteArray} {b:UInt8} {r:List UInt8}(h:s.data.toList=b :: r):(s.extract 1 s.size).data.toList=r:=by
 have hs:s.size=r.length+1:=by
  have:=congrArg List.length h
  simpa using this
 rw [zbt,h,hs]
 simp
theorem head_sign {s:ByteArray} {b:Bool} {r:List UInt8}(h:s.data.toList=(if b then 43 else 45) :: r)(h0:0<s.size):((s[0].toNat:Int)==43)=b:=by
 have hb:=zaB s 0 h0
 rw [h] at hb
 simp only [List.getElem?_cons_zero,Option.some.injEq] at hb
 rw [← hb]
 cases b<;>rfl
theorem cast_row {r:List Int}(h:RowS r):(r.map Int.toNat).map (fun x:Nat=>(x:Int))=r:=by
 rw [List.map_map]
 refine (List.map_congr_left fun q hq=>?_).trans (List.map_id r)
 have:=h q hq
 show ((q.toNat:Nat):Int)=q
 omega
theorem yU11a2 {P:Prop}(h:P:=by
 go_wp2_with fail
 have hfb:=zL bz4 rfl (.int .i64 0) (.slice none 0 0) (.slice none 0 0)
 have cf:=hfb.cell
 exact bodyPost_ret (v:=.tuple #[.agg #[.int .i64 0,.slice none 0 0,.slice none 0 0],.bool false]) (by simp [results,Tryz.results38,go_sem,cf]) rfl hno4.out
 ):P:=h
theorem yU11a4 {P:Prop}(h:P:=by
 have cf:=hfb.cell
 exact bodyPost_ret (v:=.tuple #[.agg #[.int .i64 0,.slice none 0 0,.slice none 0 0],.bool false]) (by simp [results,Tryz.results38,go_sem,cf]) rfl hno.out
 ):P:=h
theorem zdu {x:ByteArray} {w:World}(hx:x.size≤2000000) :
  Calls Tryz.prog 38 #[.string x] w (RetPX x w):=by
 go_enter Tryz.func38,Tryz.ntmps38
 have hx0:=(Ext.refl w).alloc (.cells #[.int .i64 0,.slice none 0 0,.slice none 0 0] 26)
 have bz:=Blk.new w 26 #[.int .i64 0,.slice none 0 0,.slice none 0 0]
 have hz0:=bz.lt
 go_wp2_with fail
 generalize w.alloc (.cells #[.int .i64 0,.slice none 0 0,.slice none 0 0] 26)=w0 at *
 refine (zhu (s:=x) (by omega)).mono ?_
 rintro e w1 ⟨B,m,d,l,rfl,hml,hm0,zhS,hm,hcut,hx1⟩
 have Hlx:=za (zez hcut.out)
 have Hml:=za hml
 have Hcount:=za (fun a ha he=>txt_count hcut.out (a:=a) ha he)
 have hmx:m≤2000001:=by omega
 clear hml
 obtain⟨gB,rfl,hgB,-⟩:=zP zhS hm0
 obtain⟨ad,x0,hae,-,-,hx0',hc0⟩:=(Reads.of_own zhS).str (k:=0) hm0
 obtain rfl:=Option.some.inj hae
 rw [zH,Nat.add_zero] at hc0
 have hm0':(0:Int)<(m:Int):=by omega
 have Hfirst:=za (fun a ha he=>txt_first hcut.out hx0'.out (a:=a) ha he)
 have Hne0:=za (fun h=>first_ne hcut.out hx0'.out h)
 have Hrow:=za (fun (i:Nat) (hi:1≤i) (y:ByteArray) (h0:l[i]?=some y) a ha he=>txt_row hcut.out hi h0 (a:=a) ha he)
 clear hcut
 go_wp2_with fail
 refine (zdQ (x:=x0)).mono ?_
 rintro e w2 ⟨al,ok1,rfl,ha,hal1,hx2⟩
 have hw2:=hx1.trans hx2
 have bz2:=bz.ext hw2
 have cz2:=bz2.cell
 have fz2:=bz2.frozen
 cases ok1
 ·have hno:=za (zcy (x:=x) (Z:=w.heap.size) (hx0.trans hw2) (Nat.le_refl _) (fun a ha he=>by
   rcases hal1.out with h|⟨-,-,h⟩
   ·exact absurd h.1 (by decide)
   ·exact h _ (zN ha).2.1 (Hfirst.out a ha he).symm))
  go_wp2_with fail
  have hfb:=zL bz2 rfl (.int .i64 0) (.slice none 0 0) (.slice none 0 0)
  exact yU11a4
 ·have hal2:alX al=x0.data.toList:=by
   rcases hal1.out with h|h
   ·exact h.2
   ·exact absurd h.1 (by decide)
  have Hne:=za (Hne0.out (by rw [← hal2];exact al_ne ha))
  have Hal:=za (fun (a:Aut) (h:zh a=true) (he:zcd a=x.data.toList)=>show a.al=(al:Int) from by
   have h1:=al_inj ha (zN h).2.1 (hal2.trans (Hfirst.out a h he))
   have:=(zN h).1
   omega)
  clear hal1 hal2
  have bG:=Blk.new w2 26 #[.int .i64 al,.slice none 0 0,.slice none 0 0]
  have hx3:=(Ext.refl w2).alloc (.cells #[.int .i64 al,.slice none 0 0,.slice none 0 0] 26)
  have hs2:=hw2.size
  have zhT:=ze zhS hx2
  go_upto_region 6 with fail
  have zhU:=ze zhT hx3
  have zhK:Gro w0 (w2.alloc (.cells #[.int .i64 al,.slice none 0 0,.slice none 0 0] 26)) w2.heap.size al (.slice none 0 0) [] [] (.slice none 0 0) []:=⟨bG,World.ownsRow_nil _ _ _ _,zy.nil _ _,World.ownsRow_nil _ _ _ _,hw2.trans hx3,hs2⟩
  generalize w2.alloc (.cells #[.int .i64 al,.slice none 0 0,.slice none 0 0] 26)=w3 at *
  generalize w2.heap.size=G at *
  clear cz2 fz2 hc0 zhT
  go_wp2_with fail
  go_loopw [8] (fun iv wr=>∃ (i:Nat) (v:Value) (rows:List Value) (ls:List (List Int)) (vA:Value) (acc:List Bool),1≤i∧i≤m∧iv=.int .i64 (i:Nat)∧Gro w0 wr G al v rows ls vA acc∧Hid (ls.length≤i - 1)∧Hid (acc.length=ls.length)∧Hid (∀ a,zh a=true→zcd a=x.data.toList→ls=a.next.take (i - 1)∧acc=a.acc.take (i - 1))∧wr.ownsRow w0.heap.size 9 1 (.slice (some ⟨gB,0,none⟩) m d) m (zF l)) (fun iv _=>m - (intOf iv).toNat)
  case atStart=>exact⟨1,_,_,[],_,[],Nat.le_refl _,hm0,rfl,zhK,za (Nat.zero_le _),za rfl,za (fun a _ _=>⟨rfl,rfl⟩),zhU⟩
  case round =>
   clear zhK zhU
   obtain⟨i,v,rows,ls,vA,acc,hi1,hi,rfl,zhK,hln,hal,htk,hstr⟩:=hrel
   have bz3:=bz.ext zhK.ext
   by_cases hlt:i<m
   ·obtain⟨ad,xk,hae,-,-,hxk,hck⟩:=(Reads.of_own hstr).str hlt
    obtain rfl:=Option.some.inj hae
    rw [zH,Nat.zero_add] at hck
    have hbk:=Hlx.out xk (List.mem_of_getElem? hxk.out)
    have HR:=za (Hrow.out i hi1 xk hxk.out)
    cases he:xk.toList.isEmpty
    ·have Hxne:=za (zcR he)
     have h1k:1≤xk.size:=by
      rcases Nat.eq_zero_or_pos xk.size with h0|h0
      ·rw [ByteArray.toList_eq] at he
       have e2:xk.data.toList.length=xk.size:=rfl
       rw [List.eq_nil_of_length_eq_zero (e2.trans h0)] at he
       cases he
      ·exact h0
     have h1k':(1:Int)≤(xk.size:Int):=by omega
     have hex:(xk.extract 1 xk.size).size≤x.size:=by rw [ByteArray.size_extract];omega
     have HJ:=za (fun (a:Aut) (ha:zh a=true) (he:zcd a=x.data.toList)=>show ∃ r b,a.next[i - 1]?=some r∧a.acc[i - 1]?=some b∧RowS r∧zaQ (r.map Int.toNat)=(xk.extract 1 xk.size).data.toList∧xk.data.toList=zgG b r from by
      obtain⟨r,b,h1,h2,h3,h4⟩:=HR.out a ha he
      exact⟨r,b,h1,h2,h3,(rest_list h4).symm,h4⟩)
     go_wp2_with fail
     refine (zhw (s:=xk.extract 1 xk.size) (by omega)).mono ?_
     rintro e w4 ⟨Ar,nr,cr,lr,ok,rfl,hnr,hor,hnb,hjo,hx4⟩
     cases ok
     ·have hno4:=za (zcy (x:=x) (Z:=w.heap.size) ((hx0.trans zhK.ext).trans hx4) (Nat.le_refl _) (fun a ha he=>by
       obtain⟨r,b,h1,h2,h3,h4,-⟩:=HJ.out a ha he
       exact absurd (hjo.out _ h3.nat h4).1 (by decide)))
      have bz4:=bz3.ext hx4
      have cz:=bz4.cell
      have fz:=bz4.frozen
      exact yU11a2
     ·subst hnr
      have HL:=za (fun (a:Aut) (ha:zh a=true) (he:zcd a=x.data.toList)=>show ∃ b,a.next[i - 1]?=some lr∧a.acc[i - 1]?=some b∧xk.data.toList=zgG b lr from by
       obtain⟨r,b,h1,h2,h3,h4,h5⟩:=HJ.out a ha he
       have e:lr=r:=(hjo.out _ h3.nat h4).2.trans (cast_row h3)
       subst e
       exact⟨b,h1,h2,h5⟩)
      have hlow:=za zhK.low
      have hs1:=za zhK.ext.size
      have hacc4:=zhK.more hx4
      have hstr4:=ze hstr hx4
      have cG:=hacc4.blk.cell
      have hs4:=hacc4.ext.size
      have hlm:ls.length≤2000001:=by have:=hln.out;omega
      have Hxk:=za hxk.out
      clear zhK hstr hck hjo HJ
      go_upto_region 15 with (at_builtin;refine zab w0 w4 rfl _ _ _ rfl 74 _ 1 24 Tryz.underlying23 zbj rfl (by decide) v ls.length rows _ _ rfl rfl hs4 hacc4.nx rfl (zat _ _ _) (by unfold maxLen;omega) (by omega) ?_;intro g5 cap5 w6 hown6 hg6 hat6 hlt6;obtain⟨q1,q2,q3⟩:=hacc4.pushRow hlow.out hs1.out hor hown6 hg6 hat6;have q1':=q1.out;have hstr6:=(zd hstr4 (Frm.of_grown hg6) (fun b hb hS=>zaq hstr4 hacc4.nx (by decide) hb hS)))
      have hstr7:=zd hstr6 (Frm.setCell w6 G 1 (.slice (some ⟨g5,0,none⟩) (ls.length+1) cap5)) (fun b hb hS=>by
       have hB6:Blk w6 G 26 #[.int .i64 al,v,vA]:=(hg6.block G hacc4.blk.lt (fun e=>zk hacc4.nx hacc4.blk (by decide) e.symm rfl)).trans hacc4.blk
       exact zk hstr6 hB6 (by decide) hb hS)
      have hln7:=za (show (ls++[lr]).length≤i by have:=hln.out;simp;omega)
      have hal7:=za (show acc.length+1=(ls++[lr]).length by have:=hal.out;simp;omega)
      have htk7:=za (fun (a:Aut) (ha:zh a=true) (he:zcd a=x.data.toList)=>show ls++[lr]=a.next.take i∧acc=a.acc.take (i - 1)∧∃ b,a.acc[i - 1]?=some b∧xk.data.toList=zgG b lr from by
       obtain⟨h1,h2⟩:=htk.out a ha he
       obtain⟨b,h3,h4,h5⟩:=HL.out a ha he
       have e:i=(i - 1)+1:=by omega
       refine⟨?_,h2,b,h4,h5⟩
       rw [e,List.take_add_one,← h1,h3]
       rfl)
      clear q1 q1' q2 hown6 hg6 hat6 hlt6 hstr6 hstr4 hacc4 cG hln hal htk hor HL
      generalize ls++[lr]=ls7 at *
      generalize rows++[.slice Ar lr.length cr]=rows7 at *
      generalize w6.setCell ⟨G,1,none⟩ (.slice (some ⟨g5,0,none⟩) (ls.length+1) cap5)=w7 at *
      generalize Value.slice (some ⟨g5,0,none⟩) (ls.length+1) cap5=v7 at *
      obtain⟨ad7,xk7,hae7,-,-,hxk7,hck7⟩:=(Reads.of_own hstr7).str hlt
      obtain rfl:=Option.some.inj hae7
      rw [zH,Nat.zero_add] at hck7
      obtain rfl:xk7=xk:=Option.some.inj (hxk7.out.symm.trans Hxk.out)
      have cG:∀ W,Ext w7 W→∀ q,W.cell? ⟨G,q,none⟩=#[Value.int .i64 al,v7,vA][q]?:=fun W hW=>(q3.blk.ext hW).cell
      have cS:∀ W,Ext w7 W→W.cell? ⟨gB,i,none⟩=some (.string xk7):=fun W hW=>hW.cell_some hck7
      have h0k:0<xk7.size:=by omega
      have h0k':(0:Int)<(xk7.size:Int):=by omega
      have hb0:=zaP xk7 0 h0k
      have Hsig:=za (fun (b:Bool) (h:xk7.data.toList=zgG b lr)=>head_sign h h0k)
      obtain⟨bb,hbb⟩:∃ bb,((xk7[0].toNat:Int)==43)=bb:=⟨_,rfl⟩
      rw [hbb] at Hsig
      have hww:=Ext.refl w7
      clear hck7 hxk7 Hxk
      refine uR (fun X=>Ext w7 X) [9,11] (zK.of [0,1,2,3,4,5,6,7,8,9,10,11]) ?_
      refine uQ ?_
      have hxd:=hww.drew
      refine zb fun K hK=>?_;go_simp
      refine hK.out _ _ (hxd.alloc _) ?_
      refine pT ?_
      refine zg fun K hK=>?_
      have hs7:=q3.ext.size
      have q3d:=q3.more hxd
      have hal8:acc.length≤2000001:=by have:=hal7.out;have:=hln7.out;omega
      have hstr8:=ze hstr7 hxd
      refine zaC w0 w7.drew _ _ _ rfl 4 _ 1 1 Tryz.underlying24 zaG rfl (by decide) vA acc.length (zas acc) _ _ rfl rfl q3d.ext.size q3d.acc rfl (by simp [Value.oneCell']) (by unfold maxLen;omega) (by omega) ?_
      intro g8 cap8 w8 hown8 hg8 hat8 hlt8
      refine hK.out _ _ ?_
      refine pT ?_
      refine uQ ?_
      obtain⟨p1,p2,p3⟩:=q3d.pushAcc (x:=bb) (W':=w8) hown8 hg8 hat8
      have p1':=p1.out
      have hstr9:=zd hstr8 (Frm.of_grown hg8) (fun b hb hS=>zaq hstr8 q3d.acc (by decide) hb hS)
      have hstr10:=zd hstr9 (Frm.setCell w8 G 2 (.slice (some ⟨g8,0,none⟩) (acc.length+1) cap8)) (fun b hb hS=>by
       have hB8:Blk w8 G 26 #[.int .i64 al,v7,vA]:=(hg8.block G q3d.blk.lt (fun e=>zk q3d.acc q3d.blk (by decide) e.symm rfl)).trans q3d.blk
       exact zk hstr9 hB8 (by decide) hb hS)
      refine zg fun K hK=>?_
      go_simp
      refine hK.out _ _ ?_
      refine zj ?_
      go_wp2_with fail
      go_roundw
      case rel=>exact⟨i+1,_,_,ls7,_,acc++[bb],by omega,by omega,by go_num,p3,za (by have:=hln7.out;omega),za (by have:=hal7.out;simp;omega),za (fun a ha he=>by
       obtain⟨h1,h2,b,h3,h4⟩:=htk7.out a ha he
       refine⟨h1,?_⟩
       have e:i+1 - 1=(i - 1)+1:=by omega
       rw [e,List.take_add_one,← h2,h3,Hsig.out b h4]
       rfl),hstr10⟩
      case measure=>simp [intOf];omega
    ·have cz:=bz3.cell
     have fz:=bz3.frozen
     have hno:=za (zcy (x:=x) (Z:=w.heap.size) (hx0.trans zhK.ext) (Nat.le_refl _) (fun a ha h=>by
      obtain⟨r,b,-,-,-,h4⟩:=HR.out a ha h
      rw [zeh he] at h4
      cases h4))
     go_wp2_with fail
     have hfb:=zL bz3 rfl (.int .i64 0) (.slice none 0 0) (.slice none 0 0)
     exact yU11a4
   ·obtain⟨A5,c5,rfl⟩:=zf zhK.nx
    obtain⟨B5,d5,rfl⟩:=zf zhK.acc
    have hat:zM wr w0.heap.size wr.heap.size A5 ls.length B5 acc.length (⟨al,ls,acc⟩:Aut):=⟨zdm.reads ⟨rows,zhK.nx,zhK.rows⟩ rfl,rfl,Reads.of_own zhK.acc⟩
    have cG:=zhK.blk.cell
    have HE:=za (fun (a:Aut) (ha:zh a=true) (he:zcd a=x.data.toList)=>show (⟨al,ls,acc⟩:Aut)=a from by
     obtain⟨h1,h2⟩:=htk.out a ha he
     have h3:=Hcount.out a ha he
     have h4:=Hal.out a ha he
     have h5:=Hml.out
     have h6:=(zN ha).2.2.1
     rw [List.take_of_length_le (by omega)] at h1 h2
     cases a
     simp only [Aut.mk.injEq]
     exact⟨h4.symm,h1,h2⟩)
    go_wp2_with fail
    refine (zbz (a:=⟨al,ls,acc⟩) hat).mono ?_
    rintro e w4 ⟨tx,rfl,htx,hx4⟩
    have hacc4:=zhK.more hx4
    have bz4:=bz3.ext hx4
    have cz:=bz4.cell
    have fz:=bz4.frozen
    have cG4:=hacc4.blk.cell
    clear cG
    cases hne:tx.toList==x.toList
    ·have hno4:=za (zcy (x:=x) (Z:=w.heap.size) ((hx0.trans zhK.ext).trans hx4) (Nat.le_refl _) (fun a ha he=>by
      have e:=HE.out a ha he
      rw [ByteArray.toList_eq,ByteArray.toList_eq,htx.out,e,he] at hne
      simp at hne))
     exact yU11a2
    ·have hyes:=za (show ParsX x true ⟨al,ls,acc⟩ from by
      have h1:zcd ⟨al,ls,acc⟩=x.data.toList:=by
       rw [ByteArray.toList_eq,ByteArray.toList_eq,htx.out] at hne
       exact eq_of_beq hne
      refine .inl ⟨rfl,?_,h1⟩
      cases hv:zh (⟨al,ls,acc⟩:Aut) with
      |true=>rfl
      |false =>
       unfold zcd at h1
       rw [hv] at h1
       exact absurd h1.symm Hne.out)
     have hF:=zaj w4 w.heap.size (.int .i64 al) (.slice A5 ls.length c5) (.slice B5 acc.length d5)
     obtain⟨f1,-,-⟩:=hacc4.fin hx0 (hF.mono (fun k _ hk=>by have hk':k=w.heap.size:=hk;omega))
     have f2:=zL bz4 rfl (.int .i64 al) (.slice A5 ls.length c5) (.slice B5 acc.length d5)
     have f3:=(hx0.trans hacc4.ext).frm hF (fun k hk e=>by omega)
     go_wp2_with fail
     have cf:=f2.cell
     exact bodyPost_ret (v:=.tuple #[.agg #[.int .i64 al,.slice A5 ls.length c5,.slice B5 acc.length d5],.bool true]) (by simp [results,Tryz.results38,go_sem,cf]) rfl ⟨⟨al,ls,acc⟩,A5,_,c5,B5,_,d5,true,rfl,f1,hyes,f3⟩
def zgM (x:ByteArray) (ok hd:Bool) (a:Aut) (t:ByteArray):Prop:=
 ok=true∧zw hd a t=true∧zea hd a t=x.data.toList∨ok=false∧hd=false∧a=⟨0,[],[]⟩∧t=⟨#[]⟩∧∀ hd' a' t',zw hd' a' t'=true→zea hd' a' t'≠x.data.toList
theorem zgM.same {x:ByteArray} {ok ok' hd hd':Bool} {a a':Aut} {t t':ByteArray}(h:zgM x ok hd a t) (g:zgM x ok' hd' a' t'):ok=ok'∧hd=hd'∧a=a'∧t=t':=by
 rcases h with ⟨h1,h2,h3⟩|⟨h1,h2,h3,h4,h5⟩<;>rcases g with ⟨g1,g2,g3⟩|⟨g1,g2,g3,g4,g5⟩
 ·obtain⟨e1,e2,e3⟩:=cert_inj h2 g2 (h3.trans g3.symm)
  exact⟨h1.trans g1.symm,e1,e2,e3⟩
 ·exact absurd h3 (g5 _ _ _ h2)
 ·exact absurd g3 (h5 _ _ _ g2)
 ·exact⟨h1.trans g1.symm,h2.trans g2.symm,h3.trans g3.symm,h4.trans g4.symm⟩
theorem zcw {x:ByteArray} {hd:Bool} {a:Aut} {t:ByteArray}(hx:x.data.toList≠[])(h:zea hd a t=x.data.toList):zgM x true hd a t:=by
 refine .inl ⟨rfl,?_,h⟩
 cases hv:zw hd a t with
 |true=>rfl
 |false =>
  unfold zea at h
  rw [hv] at h
  exact absurd h.symm hx
theorem zdM {x:ByteArray} {hd:Bool} {a:Aut} {t:ByteArray}(hc:∀ hd' a' t',zw hd' a' t'=true→zea hd' a' t'=x.data.toList→hd=hd'∧a=a'∧t=t')(h:zea hd a t≠x.data.toList):zgM x false false ⟨0,[],[]⟩ ⟨#[]⟩:=
 .inr ⟨rfl,rfl,rfl,rfl,fun hd' a' t' hv he=>h (by
  obtain⟨e1,e2,e3⟩:=hc hd' a' t' hv he
  rw [e1,e2,e3]
  exact he)⟩
theorem pars_empty {x:ByteArray}(hx:x.data.toList=[]):zgM x false false ⟨0,[],[]⟩ ⟨#[]⟩:=
 .inr ⟨rfl,rfl,rfl,rfl,fun _ _ _ hv he=>cert_ne hv (he.trans hx)⟩
theorem empty_ba {t:ByteArray}(h:t.toList.isEmpty=true):t=⟨#[]⟩:=empty_eq h (by rw [ByteArray.toList_eq];rfl)
theorem zgx {x r:ByteArray} {ok:Bool} {b:Aut}(hx:x.data.toList=zbw++r.data.toList)(hp:ParsX r ok b):∀ hd' a' t',zw hd' a' t'=true→zea hd' a' t'=x.data.toList→true=hd'∧b=a'∧(⟨#[]⟩:ByteArray)=t':=by
 intro hd a t hv he
 unfold zea at he
 rw [if_pos hv,hx] at he
 cases hd
 ·simp [zbw,zbV] at he
 ·simp only [if_true] at he
  have e:=List.append_cancel_left he
  simp only [zw,if_true,Bool.and_eq_true] at hv
  refine⟨rfl,?_,(empty_ba hv.2).symm⟩
  rcases hp with ⟨-,h2,h3⟩|⟨-,-,h3⟩
  ·exact txt_inj h2 hv.1 (h3.trans e.symm)
  ·exact absurd e (h3 a hv.1)
theorem zgv {x:ByteArray}(hx:∀ r,x.data.toList≠zbw++r) {hd:Bool} {a:Aut} {t:ByteArray}(hv:zw hd a t=true)(he:zea hd a t=x.data.toList):hd=false∧a=⟨0,[],[]⟩∧zaO t=true∧x.data.toList=zbV++zdc t:=by
 unfold zea at he
 rw [if_pos hv] at he
 cases hd
 ·simp only [Bool.false_eq_true,if_false] at he
  simp only [zw,Bool.false_eq_true,if_false,Bool.and_eq_true] at hv
  exact⟨rfl,none_eq hv.1,hv.2,he.symm⟩
 ·simp only [if_true] at he
  exact absurd he.symm (hx _)
theorem word_of {t r:ByteArray}(hw:zaO t=true)(h:r.data.toList=zdc t):t=if r.data.toList=[45] then ⟨#[]⟩ else r:=by
 unfold zdc at h
 split at h
 ·rename_i he
  rw [if_pos h]
  exact empty_ba he
 ·rename_i he
  have hne:¬ r.data.toList=[45]:=by rw [h];exact zfY hw
  rw [if_neg hne]
  cases t
  cases r
  exact congrArg ByteArray.mk (Array.toList_inj.1 h.symm)
theorem zdh {x r t:ByteArray}(hx:∀ r,x.data.toList≠zbw++r)(hr:∀ l,x.data.toList=zbV++l→r.data.toList=l)(ht:t=if r.data.toList=[45] then ⟨#[]⟩ else r):∀ hd' a' t',zw hd' a' t'=true→zea hd' a' t'=x.data.toList→false=hd'∧(⟨0,[],[]⟩:Aut)=a'∧t=t':=by
 intro hd a t' hv he
 obtain⟨h1,h2,h3,h4⟩:=zgv hx hv he
 exact⟨h1.symm,h2.symm,ht.trans (word_of h3 (hr _ h4)).symm⟩
theorem word_ne (t:ByteArray):zdc t≠[]:=by
 unfold zdc
 split
 ·simp
 ·rename_i h
  rw [ByteArray.toList_eq] at h
  intro e
  rw [e] at h
  exact h rfl
theorem txtC_len {hd:Bool} {a:Aut} {t:ByteArray}(hv:zw hd a t=true):7≤(zea hd a t).length:=by
 unfold zea
 rw [if_pos hv]
 cases hd
 ·have h:=List.length_pos_iff.2 (word_ne t)
  simp only [Bool.false_eq_true,if_false,List.length_append,zbV,List.length_cons,List.length_nil]
  omega
 ·simp only [zw,if_true,Bool.and_eq_true] at hv
  have h:=List.length_pos_iff.2 (txt_ne hv.1)
  simp only [if_true,List.length_append,zbw,List.length_cons,List.length_nil]
  omega
theorem pars_short {x:ByteArray}(hx:x.size<7):zgM x false false ⟨0,[],[]⟩ ⟨#[]⟩:=
 .inr ⟨rfl,rfl,rfl,rfl,fun _ _ _ hv he=>by
  have h:=txtC_len hv
  rw [he,Array.length_toList] at h
  have:x.data.size=x.size:=rfl
  omega⟩
def RetPC (x:ByteArray) (w:World) (e:Ending) (w':World):Prop:=
 ∃ (ok hd:Bool) (a:Aut) (A:Option Addr) (n c:Nat) (A':Option Addr) (n' c':Nat) (t:ByteArray),e=.returned (.tuple #[.agg #[.bool hd,.int .i64 a.al,.slice A n c,.slice A' n' c',.string t],.bool ok])∧zO w' w.heap.size A n c A' n' c' a∧Hid (zgM x ok hd a t)∧Ext w w'
theorem zdo {x:ByteArray} {ok hd:Bool} {a:Aut} {A:Option Addr} {n c:Nat} {A':Option Addr} {n' c':Nat} {t:ByteArray} {w W:World} {Z K:Nat}(hx:Ext w W)(hZ:w.heap.size≤Z)(hK:Z<K)(ho:zO W K A n c A' n' c' a)(hp:zgM x ok hd a t) :
  Hid (RetPC x w (.returned (.tuple #[.agg #[.bool hd,.int .i64 a.al,.slice A n c,.slice A' n' c',.string t],.bool ok])) (((((W.setCell ⟨Z,0,none⟩ (.bool hd)).setCell ⟨Z,1,none⟩ (.int .i64 a.al)).setCell ⟨Z,2,none⟩ (.slice A n c)).setCell ⟨Z,3,none⟩ (.slice A' n' c')).setCell ⟨Z,4,none⟩ (.string t))):=by
 have hf:=zW W Z (.bool hd) (.int .i64 a.al) (.slice A n c) (.slice A' n' c') (.string t)
 exact za ⟨ok,hd,a,A,n,c,A',n',c',t,rfl,(ho.keep hf (fun b h1 e=>by have e':b=Z:=e;omega)).less (by omega),za hp,hx.frm hf (fun k hk e=>by have e':k=Z:=e;omega)⟩
theorem zdV {t x:ByteArray} {L:List UInt8}(h:(t.toList==x.toList)=true)(ht:t.data.toList=L):L=x.data.toList:=by
 rw [ByteArray.toList_eq,ByteArray.toList_eq,ht] at h
 exact eq_of_beq h
theorem zdW {t x:ByteArray} {L:List UInt8}(h:(t.toList==x.toList)=false)(ht:t.data.toList=L):L≠x.data.toList:=by
 intro e
 rw [ByteArray.toList_eq,ByteArray.toList_eq,ht,e] at h
 simp at h
theorem six_rest {x:ByteArray} {P l:List UInt8}(hP:P.length=6)(h:x.data.toList=P++l):(x.extract 6 x.size).data.toList=l:=by
 have e:x.data.toList.length=x.size:=rfl
 rw [zbt,List.take_of_length_le (by rw [List.length_drop,e];omega),h,← hP,List.drop_left]
theorem six_head {x:ByteArray} {P l:List UInt8}(hP:P.length=6)(h:x.data.toList=P++l):(x.extract 0 6).data.toList=P:=by
 rw [zbt,h,List.drop_zero,Nat.sub_zero,← hP,List.take_left]
theorem six_join {x:ByteArray} {P:List UInt8}(h:(x.extract 0 6).data.toList=P):x.data.toList=P++(x.extract 6 x.size).data.toList:=by
 have e:x.data.toList.length=x.size:=rfl
 rw [← h,zbt,zbt,List.drop_zero,Nat.sub_zero,List.take_of_length_le (l:=x.data.toList.drop 6) (by rw [List.length_drop,e];omega),List.take_append_drop]
theorem yU11b1 {P:Prop}(h:P:=by
 go_wp2_with fail
 have c4:=r4.cell
 exact bodyPost_ret (v:=.tuple #[.agg #[.bool false,.int .i64 0,.slice none 0 0,.slice none 0 0,.string ⟨#[]⟩],.bool false]) (by simp [results,Tryz.results14,go_sem,c4]) rfl zhM.out
 ):P:=h
theorem yU11a1 {P:Prop}(h:P:=by
 have zhM:=zdo (Z:=w.heap.size) (K:=w.heap.size+1) (A:=none) (n:=0) (c:=0) (A':=none) (n':=0) (c':=0) hw1 (Nat.le_refl _) (Nat.lt_succ_self _) (zar _ _) (zdM hcand.out (zdW hne htx.out))
 have r4:=zA bz1 rfl (.bool false) (.int .i64 0) (.slice none 0 0) (.slice none 0 0) (.string ⟨#[]⟩)
 exact yU11b1
 ):P:=h
theorem spec_ParseCertificateX {x:ByteArray} {w:World}(hx:x.size≤2000000) :
  Calls Tryz.prog 14 #[.string x] w (RetPC x w):=by
 have hx0:=(Ext.refl w).alloc (.cells #[.bool false,.int .i64 0,.slice none 0 0,.slice none 0 0,.string ⟨#[]⟩] 28)
 have bz:=Blk.new w 28 #[.bool false,.int .i64 0,.slice none 0 0,.slice none 0 0,.string ⟨#[]⟩]
 have hs0:(w.alloc (.cells #[.bool false,.int .i64 0,.slice none 0 0,.slice none 0 0,.string ⟨#[]⟩] 28)).heap.size=w.heap.size+1:=by simp
 go_enter Tryz.func14,Tryz.ntmps14
 go_upto_region 1 with fail
 generalize w.alloc (.cells #[.bool false,.int .i64 0,.slice none 0 0,.slice none 0 0,.string ⟨#[]⟩] 28)=w0 at *
 by_cases h7:x.size<7
 ·have h7':(x.size:Int)<7:=by omega
  have zhM:=zdo (Z:=w.heap.size) (A:=none) (n:=0) (c:=0) (A':=none) (n':=0) (c':=0) hx0 (Nat.le_refl _) (Nat.lt_succ_self _) (zar _ _) (pars_short h7)
  have cz:=bz.cell
  have fz:=bz.frozen
  have r4:=zA bz rfl (.bool false) (.int .i64 0) (.slice none 0 0) (.slice none 0 0) (.string ⟨#[]⟩)
  exact yU11b1
 ·have h7':(7:Int)≤(x.size:Int):=by omega
  have h6':(6:Int)≤(x.size:Int):=by omega
  have hxne:x.data.toList≠[]:=fun e=>by
   have e2:x.data.toList.length=x.size:=rfl
   rw [e,List.length_nil] at e2
   omega
  clear h7
  have hr:(x.extract 6 x.size).size≤2000000:=by rw [ByteArray.size_extract];omega
  cases hh:(x.extract 0 6).toList==[104,111,108,100,115,32]
  ·have hnh:∀ r,x.data.toList≠zbw++r:=fun r e=>by
    rw [ByteArray.toList_eq,six_head rfl e] at hh
    simp [zbw] at hh
   have hrr:∀ l,x.data.toList=zbV++l→(x.extract 6 x.size).data.toList=l:=fun l e=>six_rest rfl e
   have bG:=Blk.new w0 28 #[.bool false,.int .i64 0,.slice none 0 0,.slice none 0 0,.string ⟨#[]⟩]
   have hxa:=(Ext.refl w0).alloc (.cells #[.bool false,.int .i64 0,.slice none 0 0,.slice none 0 0,.string ⟨#[]⟩] 28)
   have bz1:=bz.ext hxa
   have hw1:=hx0.trans hxa
   rw [hs0] at bG
   cases hdd:(x.extract 6 x.size).toList==[45]
   ·have hcand:=za (zdh (t:=x.extract 6 x.size) hnh hrr (by
     rw [if_neg]
     intro e
     rw [ByteArray.toList_eq,e] at hdd
     simp at hdd))
    clear bG hxa bz1 hw1
    have bG:=Blk.new w0 28 #[.bool false,.int .i64 0,.slice none 0 0,.slice none 0 0,.string (x.extract 6 x.size)]
    have hxa:=(Ext.refl w0).alloc (.cells #[.bool false,.int .i64 0,.slice none 0 0,.slice none 0 0,.string (x.extract 6 x.size)] 28)
    have bz1:=bz.ext hxa
    have hw1:=hx0.trans hxa
    rw [hs0] at bG
    go_upto_region 9 with fail
    clear hxa hnh hrr hdd hh
    generalize w0.alloc (.cells #[.bool false,.int .i64 0,.slice none 0 0,.slice none 0 0,.string (x.extract 6 x.size)] 28)=w1 at *
    generalize x.extract 6 x.size=t at *
    have ho1:=zar w1 (w.heap.size+1)
    have cG:=bG.cell
    go_upto_region 99 with fail
    refine (zao (a:=⟨0,[],[]⟩) (ho1.reads) hr).mono ?_
    rintro e w9 ⟨tx,rfl,htx,hx9⟩
    clear cG
    replace bG:=bG.ext hx9
    replace bz1:=bz1.ext hx9
    replace ho1:=ho1.ext hx9
    replace hw1:=hw1.trans hx9
    have cG:=bG.cell
    have cz:=bz1.cell
    have fz:=bz1.frozen
    cases hne:tx.toList==x.toList
    ·exact yU11a1
    ·have zhM:=zdo (Z:=w.heap.size) (K:=w.heap.size+1) hw1 (Nat.le_refl _) (Nat.lt_succ_self _) ho1 (zcw hxne (zdV hne htx.out))
     have r4:=zA bz1 rfl (.bool false) (.int .i64 0) (.slice none 0 0) (.slice none 0 0) (.string t)
     go_wp2_with fail
     have c4:=r4.cell
     exact bodyPost_ret (v:=.tuple #[.agg #[.bool false,.int .i64 0,.slice none 0 0,.slice none 0 0,.string t],.bool true]) (by simp [results,Tryz.results14,go_sem,c4]) rfl zhM.out
   ·have hcand:=za (zdh (t:=⟨#[]⟩) hnh hrr (by
     rw [if_pos]
     rw [ByteArray.toList_eq] at hdd
     exact eq_of_beq hdd))
    go_upto_region 9 with fail
    clear hxa hnh hrr hdd hh
    generalize w0.alloc (.cells #[.bool false,.int .i64 0,.slice none 0 0,.slice none 0 0,.string ⟨#[]⟩] 28)=w1 at *
    have ho1:=zar w1 (w.heap.size+1)
    have cG:=bG.cell
    go_upto_region 99 with fail
    refine (zao (a:=⟨0,[],[]⟩) (ho1.reads) (show (⟨#[]⟩:ByteArray).size≤2000000 by decide)).mono ?_
    rintro e w9 ⟨tx,rfl,htx,hx9⟩
    clear cG
    replace bG:=bG.ext hx9
    replace bz1:=bz1.ext hx9
    replace ho1:=ho1.ext hx9
    replace hw1:=hw1.trans hx9
    have cG:=bG.cell
    have cz:=bz1.cell
    have fz:=bz1.frozen
    cases hne:tx.toList==x.toList
    ·exact yU11a1
    ·have zhM:=zdo (Z:=w.heap.size) (K:=w.heap.size+1) hw1 (Nat.le_refl _) (Nat.lt_succ_self _) ho1 (zcw hxne (zdV hne htx.out))
     have r4:=zA bz1 rfl (.bool false) (.int .i64 0) (.slice none 0 0) (.slice none 0 0) (.string ⟨#[]⟩)
     go_wp2_with fail
     have c4:=r4.cell
     exact bodyPost_ret (v:=.tuple #[.agg #[.bool false,.int .i64 0,.slice none 0 0,.slice none 0 0,.string ⟨#[]⟩],.bool true]) (by simp [results,Tryz.results14,go_sem,c4]) rfl zhM.out
  ·have hjoin:x.data.toList=zbw++(x.extract 6 x.size).data.toList:=six_join (by
    rw [ByteArray.toList_eq] at hh
    exact eq_of_beq hh)
   have bG:=Blk.new w0 28 #[.bool true,.int .i64 0,.slice none 0 0,.slice none 0 0,.string ⟨#[]⟩]
   have hxa:=(Ext.refl w0).alloc (.cells #[.bool true,.int .i64 0,.slice none 0 0,.slice none 0 0,.string ⟨#[]⟩] 28)
   have bz1:=bz.ext hxa
   have hw1:=hx0.trans hxa
   have hs1:(w0.alloc (.cells #[.bool true,.int .i64 0,.slice none 0 0,.slice none 0 0,.string ⟨#[]⟩] 28)).heap.size=w.heap.size+1+1:=by simp [hs0]
   rw [hs0] at bG
   have cG:=bG.cell
   go_upto_region 99 with fail
   refine (zdu (x:=x.extract 6 x.size) hr).mono ?_
   rintro e w2 ⟨b,A,n,c,A',n',c',ok,rfl,ho,hp,hx2⟩
   rw [hs1] at ho
   have hcand:=za (zgx hjoin hp.out)
   clear cG hh hjoin hp
   replace bG:=bG.ext hx2
   replace bz1:=bz1.ext hx2
   replace hw1:=hw1.trans hx2
   generalize w0.alloc (.cells #[.bool true,.int .i64 0,.slice none 0 0,.slice none 0 0,.string ⟨#[]⟩] 28)=wq at *
   clear hx2 hs1 hxa
   have hxb:=(Ext.refl w2).alloc (.cells #[.int .i64 b.al,.slice A n c,.slice A' n' c'] 26)
   have bb:=Blk.new w2 26 #[.int .i64 b.al,.slice A n c,.slice A' n' c']
   have hlt2:=bG.lt
   replace bG:=bG.ext hxb
   replace bz1:=bz1.ext hxb
   replace hw1:=hw1.trans hxb
   replace ho:=ho.ext hxb
   go_upto_region 6 with fail
   clear hxb
   generalize w2.alloc (.cells #[.int .i64 b.al,.slice A n c,.slice A' n' c'] 26)=w3 at *
   have cG:=bG.cell
   have fG:=bG.frozen
   have cb:=bb.cell
   go_upto_region 9 with fail
   clear cG fG cb
   have hb4:Blk (((w3.setCell ⟨w.heap.size+1,1,none⟩ (.int .i64 b.al)).setCell ⟨w.heap.size+1,2,none⟩ (.slice A n c)).setCell ⟨w.heap.size+1,3,none⟩ (.slice A' n' c')) (w.heap.size+1) 28 #[.bool true,.int .i64 b.al,.slice A n c,.slice A' n' c',.string ⟨#[]⟩]:=by
    simpa using ((bG.set_ 1 (.int .i64 b.al)).set_ 2 (.slice A n c)).set_ 3 (.slice A' n' c')
   have hf:Frm (fun k=>k=w.heap.size+1) w3 (((w3.setCell ⟨w.heap.size+1,1,none⟩ (.int .i64 b.al)).setCell ⟨w.heap.size+1,2,none⟩ (.slice A n c)).setCell ⟨w.heap.size+1,3,none⟩ (.slice A' n' c')):=((Frm.setCell w3 (w.heap.size+1) 1 _).trans (Frm.setCell _ (w.heap.size+1) 2 _)).trans (Frm.setCell _ (w.heap.size+1) 3 _)
   replace bz1:=bz1.frm hf (by omega)
   have ho1:=(ho.keep hf (fun k h1 e=>by have e':k=w.heap.size+1:=e;omega)).less (show w.heap.size+1≤w.heap.size+1+1 by omega)
   replace hw1:=hw1.frm hf (fun k hk e=>by have e':k=w.heap.size+1:=e;omega)
   clear bG ho hf bb
   generalize ((w3.setCell ⟨w.heap.size+1,1,none⟩ (.int .i64 b.al)).setCell ⟨w.heap.size+1,2,none⟩ (.slice A n c)).setCell ⟨w.heap.size+1,3,none⟩ (.slice A' n' c')=w1 at *
   have bG:=hb4
   clear hb4
   have cG:=bG.cell
   go_upto_region 99 with fail
   refine (zao (a:=b) (ho1.reads) (show (⟨#[]⟩:ByteArray).size≤2000000 by decide)).mono ?_
   rintro e w9 ⟨tx,rfl,htx,hx9⟩
   clear cG
   replace bG:=bG.ext hx9
   replace bz1:=bz1.ext hx9
   replace ho1:=ho1.ext hx9
   replace hw1:=hw1.trans hx9
   have cG:=bG.cell
   have cz:=bz1.cell
   have fz:=bz1.frozen
   cases hne:tx.toList==x.toList
   ·exact yU11a1
   ·have zhM:=zdo (Z:=w.heap.size) (K:=w.heap.size+1) hw1 (Nat.le_refl _) (Nat.lt_succ_self _) ho1 (zcw hxne (zdV hne htx.out))
    have r4:=zA bz1 rfl (.bool true) (.int .i64 b.al) (.slice A n c) (.slice A' n' c') (.string ⟨#[]⟩)
    go_wp2_with fail
    have c4:=r4.cell
    exact bodyPost_ret (v:=.tuple #[.agg #[.bool true,.int .i64 b.al,.slice A n c,.slice A' n' c',.string ⟨#[]⟩],.bool true]) (by simp [results,Tryz.results14,go_sem,c4]) rfl zhM.out
theorem lbs_text {o:List Nat}(h:∀ l∈o,l<6):(strOfNums (lbs o)).data.toList=o.map fun l=>UInt8.ofNat (97+l):=by
 unfold strOfNums lbs
 simp only [List.map_map]
 refine List.map_congr_left fun l hl=>?_
 have:l<6:=h l hl
 show UInt8.ofNat ((97+l:Nat):Int).toNat=UInt8.ofNat (97+l)
 rw [Int.toNat_natCast]
theorem zbG {a:Nat} {w:World}(ha:a<64) :
  Calls Tryz.prog 51 #[.int .i64 a] w (zgO (alX a) w):=by
 have hsm:Sm a:=by unfold Sm;omega
 have hd:=za (show decide (0≤(a:Int)∧(a:Int)≤63)=true by simp;omega)
 by_cases h0:a=0
 ·subst h0
  rw [show ((0:Nat):Int)=0 from rfl]
  have hd0:=za (show decide ((0:Int)≤0∧(0:Int)≤63)=true by decide)
  go_enter Tryz.func51,Tryz.ntmps51
  go_wp2_with (go_at_call 54;refine (zaf _ _).mono ?_;rw [hd0.out];rintro e w' ⟨rfl,rfl⟩)
  go_ret
  exact⟨_,rfl,za rfl,Ext.refl _⟩
 ·have h0':((a:Int)==0)=false:=by simp;omega
  have hal:=za (show alX a=(letters a 6).map (fun l=>UInt8.ofNat (97+l)) by unfold alX;rw [if_neg h0])
  go_enter Tryz.func51,Tryz.ntmps51
  go_wp2_with fail
  refine (zaf _ _).mono ?_
  rw [hd.out]
  rintro e w' ⟨rfl,rfl⟩
  go_wp2_with fail
  refine (zdy a hsm _).mono ?_
  rintro e w1 ⟨B,d,rfl,zhS,hx1⟩
  have hl6:=zq a 6
  have hlm:=za (fun k (hk:k∈letters a 6)=>(zaH.1 hk).1)
  have hne:=za (show letters a 6≠[] from fun e=>al_ne ha (by rw [hal.out,e];rfl))
  have hrd:=Reads.of_own zhS
  clear zhS
  generalize letters a 6=ls at *
  go_wp2_with fail
  go_loopw [3,5,14] (fun v _ i wr=>∃ k:Nat,k≤ls.length∧i=.int .i64 k∧wr.ownsRow w1.heap.size 5 1 v k (u8s (lbs (ls.take k)))∧Ext w1 wr) (fun _ _ i _=>ls.length - (intOf i).toNat)
  case atStart=>exact⟨0,Nat.zero_le _,rfl,World.ownsRow_nil _ _ _ _,Ext.refl _⟩
  case round =>
   obtain⟨k,hk,rfl,zhJ,zhL⟩:=hrel
   obtain⟨A5,c5,rfl⟩:=zf zhJ
   by_cases hlt:k<ls.length
   ·obtain⟨ad,l,rfl,_,_,hl,hlc⟩:=(hrd.ext zhL).nat hlt
    have hl6':=hlm.out l (List.mem_of_getElem? hl.out)
    go_wp2_with (first
     |(go_at_call 105;refine (zgg hl6' _).mono ?_;rintro e w' ⟨rfl,rfl⟩)
     |(at_builtin;refine zI w1 wr rfl _ _ _ rfl 5 _ 1 1 Tryz.underlying22 info_u8 rfl (by decide) (.slice A5 k c5) _ _ _ _ rfl rfl zhL zhJ rfl (cells_u8 _) (by unfold maxLen;omega) (by omega) ?_;intro v' w5 hext5 zhV hg5 hat5))
    go_roundw
    case rel=>exact⟨k+1,by omega,by go_num,by rw [List.take_add_one,hl.out];simpa [u8s,lbs] using zhV,by assumption⟩
    case measure=>simp [intOf];omega
   ·obtain rfl:k=ls.length:=by omega
    have hpos:=List.length_pos_iff.2 hne.out
    obtain⟨g,rfl,-,-⟩:=zP zhJ hpos
    have hH:=Holds.own8 zhJ
    rw [List.take_length] at hH
    have hcv:∀ W,Ext wr W→(convert 22 9 (.slice (some ⟨g,0,none⟩) ls.length c5)).run Tryz.prog W=.ok (.string (strOfNums (lbs ls))) W:=fun W hW =>
     run_convert_bytes_arg (P:=Tryz.prog) _ 22 5 u8_row u8_und g 0 ls.length c5 (lbs ls) (by simp [lbs]) (fun i hi=>by
      have h2:=(hH i (by simpa [lbs] using hi)).1
      refine hW.cell_some (h2.trans ?_)
      have hi2:i<(lbs ls).length:=by simpa [lbs] using hi
      have hi3:i<(lbs ls).toArray.size:=by simpa [lbs] using hi
      rw [getElem!_pos (lbs ls).toArray i hi3]
      simp [enc8,List.getD,List.getElem?_eq_getElem hi2]) _ str_und
    have hcv0:=hcv _ (Ext.refl _)
    go_wp2_with fail
    go_ret
    exact⟨_,rfl,za (by rw [hal.out];exact lbs_text hlm.out),hx1.trans zhL⟩
def alF (u:List UInt8):Nat:=u.foldl (fun a b=>if 97≤b.toNat∧b.toNat≤102 then a|||2 ^ (b.toNat - 97) else a) 0
theorem alF_snoc (u:List UInt8) (b:UInt8):alF (u++[b])=if 97≤b.toNat∧b.toNat≤102 then alF u|||2 ^ (b.toNat - 97) else alF u:=by simp [alF,List.foldl_append]
theorem pow6 {l:Nat}(h:l<6):2 ^ l<64:=by
 have:∀ l<6,2 ^ l<64:=by decide
 exact this l h
theorem or64 {a b:Nat}(ha:a<64)(hb:b<64):a|||b<64:=Nat.or_lt_two_pow (n:=6) ha hb
theorem alF_alX:∀ n<64,alF (alX n)=n:=by decide +kernel
theorem ltr_yes {b:Nat}(h:97≤b∧b≤102):ltr (b:Int)=((b - 97:Nat):Int):=by
 unfold ltr
 rw [if_neg (by omega)]
 omega
theorem ltr_no {b:Nat}(h:¬ (97≤b∧b≤102)):ltr (b:Int) = -1:=by
 unfold ltr
 rw [if_pos (by omega)]
theorem pow_wrap:∀ l<6,wrap64 ((2:Int) ^ l)=((2 ^ l:Nat):Int):=by decide +kernel
theorem zdK {x:ByteArray} {w:World}(hx:x.size≤2000000) :
  Calls Tryz.prog 65 #[.string x] w (RetAlX x w):=by
 have hxx:=za hx
 go_enter Tryz.func65,Tryz.ntmps65
 go_wp2_with fail
 go_loopw [4,5,6,9] (fun v _ _ i wr=>∃ (k a:Nat),k≤x.size∧i=.int .i64 k∧v=.int .i64 a∧a<64∧Hid (a=alF (x.data.toList.take k))∧wr=w) (fun _ _ _ i _=>x.size - (intOf i).toNat)
 case atStart=>exact⟨0,0,Nat.zero_le _,rfl,rfl,by omega,za rfl,rfl⟩
 case round =>
  obtain⟨k,a,hk,rfl,rfl,ha,hal,rfl⟩:=hrel
  by_cases hlt:k<x.size
  ·have hlt':(k:Int)<(x.size:Int):=by omega
   have hst:=za (show x.data.toList.take (k+1)=x.data.toList.take k++[x[k]] by
    rw [List.take_add_one,zaB x k hlt]
    rfl)
   by_cases hb:97≤x[k].toNat∧x[k].toNat≤102
   ·have hL:=ltr_yes hb
    have hl6:x[k].toNat - 97<6:=by omega
    have hnew:=za (show a|||2 ^ (x[k].toNat - 97)=alF (x.data.toList.take (k+1)) by rw [hst.out,alF_snoc,if_pos hb,hal.out])
    have hor:=zcr (a:=a) (b:=2 ^ (x[k].toNat - 97)) (by unfold Sm;omega) (by have:=pow6 hl6;unfold Sm;omega)
    have hlt64:=or64 ha (pow6 hl6)
    generalize x[k].toNat - 97=l at *
    have hmin:min l 64=l:=by omega
    go_wp2_with (go_at_call 110;refine (zbI x k hlt _).mono ?_;rw [hL];rintro e w' ⟨rfl,rfl⟩)
    go_roundw
    case rel=>exact⟨k+1,a|||2 ^ l,by omega,by go_num,by rw [pow_wrap _ hl6,hor],hlt64,hnew,trivial⟩
    case measure=>simp [intOf];omega
   ·have hL:=ltr_no hb
    have hnew:=za (show a=alF (x.data.toList.take (k+1)) by rw [hst.out,alF_snoc,if_neg hb,hal.out])
    go_wp2_with (go_at_call 110;refine (zbI x k hlt _).mono ?_;rw [hL];rintro e w' ⟨rfl,rfl⟩)
    go_roundw
    case rel=>exact⟨k+1,a,by omega,by go_num,rfl,ha,hnew,trivial⟩
    case measure=>simp [intOf];omega
  ·obtain rfl:k=x.size:=by omega
   have zhM:=za (show a=alF x.data.toList by
    have e:x.data.toList.take x.size=x.data.toList:=List.take_of_length_le (Nat.le_refl _)
    rw [hal.out,e])
   go_wp2_with fail
   refine (zbG ha).mono ?_
   rintro e w2 ⟨t,rfl,ht,hx2⟩
   cases hxt:t.toList==x.toList
   ·have hne:=za (show ∀ n<64,alX n≠x.data.toList from fun n hn h=>by
     rw [ByteArray.toList_eq,ByteArray.toList_eq,ht.out] at hxt
     have e:a=n:=by rw [zhM.out,← h,alF_alX n hn]
     rw [e,h] at hxt
     simp at hxt)
    go_wp2_with fail
    go_ret2
    exact⟨0,false,rfl,by omega,za (.inr ⟨rfl,rfl,hne.out⟩),hx2⟩
   ·have heq:=za (show alX a=x.data.toList by
     rw [ByteArray.toList_eq,ByteArray.toList_eq,ht.out] at hxt
     exact eq_of_beq hxt)
    go_wp2_with fail
    go_ret2
    exact⟨a,true,rfl,ha,za (.inl ⟨rfl,heq.out⟩),hx2⟩
end Go.Proofs.YtfcjhpodichpjaaGreatDoor
namespace Go.Proofs.YtfcjhpodichpjaaGreatDoor
open Go Go.RowKit Go.Lib Go.Shelf
def zfD:Go.Shelf.Ren:=⟨fun|156=>53|165=>107|166=>108|169=>109|240=>151|241=>152|276=>179|277=>180|n=>n,fun|31=>61|9=>9|3=>3|4=>4|0=>0|20=>20|72=>119|76=>123|70=>117|37=>22|75=>122|127=>154|164=>185|5=>5|80=>125|n=>n,fun|n=>n⟩
theorem layJoin:Go.Proofs.Lays.n156 Tryz.prog zfD where
 mixed:=by kernel_rfl
 f156:=Tryz.func53.trans (congrArg some (by kernel_rfl))
 f165:=Tryz.func107.trans (congrArg some (by kernel_rfl))
 f166:=Tryz.func108.trans (congrArg some (by kernel_rfl))
 f169:=Tryz.func109.trans (congrArg some (by kernel_rfl))
 f240:=Tryz.func151.trans (congrArg some (by kernel_rfl))
 f241:=Tryz.func152.trans (congrArg some (by kernel_rfl))
 f276:=Tryz.func179.trans (congrArg some (by kernel_rfl))
 f277:=Tryz.func180.trans (congrArg some (by kernel_rfl))
 t0:=Tryz.underlying0
 a0:=Tryz.isAgg0
 z0:=Tryz.sizeOf0
 v0:=Tryz.zeroValue0
 t3:=Tryz.underlying3
 a3:=Tryz.isAgg3
 z3:=Tryz.sizeOf3
 v3:=Tryz.zeroValue3
 t4:=Tryz.underlying4
 a4:=Tryz.isAgg4
 z4:=Tryz.sizeOf4
 v4:=Tryz.zeroValue4
 t9:=Tryz.underlying9
 a9:=Tryz.isAgg9
 z9:=Tryz.sizeOf9
 v9:=Tryz.zeroValue9
 t20:=Tryz.underlying20
 a20:=Tryz.isAgg20
 z20:=Tryz.sizeOf20
 v20:=Tryz.zeroValue20
 t31:=Tryz.underlying61
 a31:=Tryz.isAgg61
 z31:=Tryz.sizeOf61
 v31:=Tryz.zeroValue61
 t37:=Tryz.underlying22
 a37:=Tryz.isAgg22
 z37:=Tryz.sizeOf22
 v37:=Tryz.zeroValue22
 t70:=Tryz.underlying117
 a70:=Tryz.isAgg117
 z70:=Tryz.sizeOf117
 v70:=Tryz.zeroValue117
 t72:=Tryz.underlying119
 a72:=Tryz.isAgg119
 z72:=Tryz.sizeOf119
 v72:=Tryz.zeroValue119
 t75:=Tryz.underlying122
 a75:=Tryz.isAgg122
 z75:=Tryz.sizeOf122
 v75:=Tryz.zeroValue122
 t76:=Tryz.underlying123
 a76:=Tryz.isAgg123
 z76:=Tryz.sizeOf123
 v76:=Tryz.zeroValue123
 t127:=Tryz.underlying154
 a127:=Tryz.isAgg154
 z127:=Tryz.sizeOf154
 v127:=Tryz.zeroValue154
 t164:=Tryz.underlying185
 a164:=Tryz.isAgg185
 z164:=Tryz.sizeOf185
 v164:=Tryz.zeroValue185
theorem layJoinX:Builder.Extra Tryz.prog zfD where
 sizeBuilder:=by kernel_rfl
 liesBuilder:=by kernel_rfl
 t5:=Tryz.underlying5
 a5:=Tryz.isAgg5
 z5:=Tryz.sizeOf5
 v5:=Tryz.zeroValue5
 infoByte:=by kernel_rfl
 cellsByte:=by kernel_rfl
 sizeByte:=by kernel_rfl
 neB5:=by decide
end Go.Proofs.YtfcjhpodichpjaaGreatDoor
namespace Go.Proofs.YtfcjhpodichpjaaGreatDoor
open Go Go.RowKit
theorem join_dig:∀ r:List Nat,Lib.join (r.map Lib.decDigits) [44]=zaQ r
 |[]=>rfl
 |x :: r=>by
  rw [List.map_cons,Lib.join_cons]
  show _=keyL Lib.decDigits x r
  unfold keyL Lib.joinTail
  rw [List.map_map,List.flatMap_def]
  rfl
theorem zfq {n:Nat}(hn:n<100):Lib.atoiAll (Lib.decDigits n)=.ok (n:Int):=by
 have h1:∀ n<10,Lib.atoiAll [UInt8.ofNat (48+n)]=.ok ((n:Nat):Int):=by decide +kernel
 have h2:∀ n<100,¬ n<10→Lib.atoiAll [UInt8.ofNat (48+n / 10),UInt8.ofNat (48+n % 10)]=.ok ((n:Nat):Int):=by decide +kernel
 by_cases h:n<10
 ·rw [Lib.decDigits_one h]
  exact h1 n h
 ·rw [Lib.decDigits_two h hn]
  exact h2 n hn h
end Go.Proofs.YtfcjhpodichpjaaGreatDoor
namespace Go.Proofs.YtfcjhpodichpjaaGreatDoor
open Go Go.RowKit Go.Lib Go.Shelf
def digS (l:List Int):List ByteArray:=l.map fun q=>⟨(Lib.decDigits q.toNat).toArray⟩
theorem digS_bytes (l:List Int):(digS l).map (fun x=>x.data.toList)=(l.map Int.toNat).map Lib.decDigits:=by
 unfold digS
 rw [List.map_map,List.map_map]
 refine List.map_congr_left fun q _=>?_
 simp
theorem digS_join (l:List Int):Lib.join ((digS l).map (·.data.toList)) (⟨#[44]⟩:ByteArray).data.toList=zaQ (l.map Int.toNat):=by
 rw [digS_bytes]
 exact join_dig _
theorem own_capJ {w:World} {base g n cap:Nat} {e:TypeId} {xs:List Value}(h:w.ownsRow base e 1 (.slice (some ⟨g,0,none⟩) n cap) n xs)(hn:0<n):n≤cap:=by
 rcases h.2 with ⟨h',h0⟩|⟨g',cap',cur,h',hb,hg,hnc,hcm,hcs,htake⟩
 ·omega
 ·simp only [Value.slice.injEq,Option.some.injEq,Addr.mk.injEq,and_true,true_and] at h'
  obtain⟨rfl,rfl⟩:=h'
  exact hnc
theorem lib_Join {w:World} {base n cap:Nat} {A:Option Addr} {l:List Int}(hl:l.length≤100)(hr:∀ q∈l,0≤q∧q<100)(h:w.ownsRow base 9 1 (.slice A n cap) n (zF (digS l))) :
  Calls Tryz.prog 53 #[.slice A n cap,.string ⟨#[44]⟩] w (zgO (zaQ (l.map Int.toNat)) w):=by
 have hn:l.length=n:=by have:=h.1;simpa [zF,digS] using this
 have hj:=digS_join l
 rcases Nat.eq_zero_or_pos n with h0|h0
 ·subst h0
  have he:l=[]:=List.eq_nil_of_length_eq_zero hn
  subst he
  have hc:=Any.strings_Join_none layJoin layJoinX A cap ⟨#[44]⟩ w
  change Calls Tryz.prog 53 _ _ _ at hc
  refine hc.mono ?_
  rintro e w' ⟨rfl,rfl⟩
  exact⟨_,rfl,za rfl,Ext.refl _⟩
 ·obtain⟨g,rfl,-,hg⟩:=zP h h0
  have hlen:(digS l).length=n:=by unfold digS;rw [List.length_map,hn]
  have hjl:(zaQ (l.map Int.toNat)).length≤300:=by
   have:=zfB (r:=l.map Int.toNat) (fun x hx=>by
    obtain⟨q,hq,rfl⟩:=List.mem_map.1 hx
    have:=hr q hq
    omega)
   rw [List.length_map] at this
   omega
  have hc:=Any.strings_Join layJoin layJoinX g 0 cap (digS l) ⟨#[44]⟩ w (fun j x hx=>by
   have hj:j<n:=by rw [← hlen];exact (List.getElem?_eq_some_iff.1 hx).1
   rw [Nat.zero_add,h.cellAt j (by omega)]
   simp [zF,hx]) hg (by omega) (by rw [hlen];exact own_capJ h h0) (by rw [hj];omega)
  rw [hj,hlen] at hc
  change Calls Tryz.prog 53 _ _ _ at hc
  refine hc.mono ?_
  rintro e w' ⟨rfl,hb⟩
  exact⟨_,rfl,za (by simp),Ext.of_below hb⟩
end Go.Proofs.YtfcjhpodichpjaaGreatDoor
namespace Go.Proofs.YtfcjhpodichpjaaGreatDoor
open Go Go.RowKit Go.Lib
theorem itoa_small (i:Nat)(h:i<100) (w:World) :
  Calls Tryz.prog 175 #[.int .i64 i] w fun e w'=>e=.returned (.string ⟨(Lib.decDigits i).toArray⟩)∧w=w':=by
 go_enter Tryz.func175,Tryz.ntmps175
 go_name_bytes_deep 45 SM hSM
 have eSM:SM=Lib.smalls:=by rw [← hSM];decide +kernel
 subst eSM
 clear hSM
 go_name_bytes_deep 30 DG hDG
 have eDG:DG=Lib.digits36:=by rw [← hDG];decide +kernel
 subst eDG
 clear hDG
 by_cases h10:i<10
 ·have hsl:∀ w,(Instr.slice 9 (.string Lib.digits36) (some (.int .i64 (i:Int))) (some (.int .i64 ((i:Int)+1))) none).run Tryz.prog w=.ok (.string (Lib.digits36.extract i (i+1))) w:=fun w=>by
   rw [run_slice_string w 9 Lib.digits36 .i64 .i64 _ _ Tryz.underlying9 (by omega) (by omega) (by rw [Lib.digits36_size];omega),show ((i:Int)).toNat=i by omega,show ((i:Int)+1).toNat=i+1 by omega]
  go_wp2
  go_ret
  refine⟨?_,rfl⟩
  show Ending.returned (Value.string (Lib.digits36.extract i (i+1)))=_
  rw [AnyPlain.small_ba (Lib.digits36.extract i (i+1)) (Lib.decDigits i) (by rw [Lib.extract_data];exact Lib.digits36_piece h10)]
 ·have hsl:∀ w,(Instr.slice 9 (.string Lib.smalls) (some (.int .i64 ((i:Int)*2))) (some (.int .i64 ((i:Int)*2+2))) none).run Tryz.prog w=.ok (.string (Lib.smalls.extract (i*2) (i*2+2))) w:=fun w=>by
   rw [run_slice_string w 9 Lib.smalls .i64 .i64 _ _ Tryz.underlying9 (by omega) (by omega) (by rw [Lib.smalls_size];omega),show ((i:Int)*2).toNat=i*2 by omega,show ((i:Int)*2+2).toNat=i*2+2 by omega]
  go_wp2
  go_ret
  refine⟨?_,rfl⟩
  show Ending.returned (Value.string (Lib.smalls.extract (i*2) (i*2+2)))=_
  rw [AnyPlain.small_ba (Lib.smalls.extract (i*2) (i*2+2)) (Lib.decDigits i) (by rw [Lib.extract_data];exact Lib.smalls_piece h10 h)]
theorem itoa_format (i:Nat)(h:i<100) (w:World) :
  Calls Tryz.prog 150 #[.int .i64 i,.int .i64 10] w fun e w'=>e=.returned (.string ⟨(Lib.decDigits i).toArray⟩)∧w=w':=by
 have hs:=za (itoa_small i h)
 have h1:(0:Int)≤(i:Int)∧(i:Int)<100:=by omega
 go_enter Tryz.func150,Tryz.ntmps150
 go_wp2_with (go_at_call 175;refine (hs.out _).mono ?_;rintro e w1 ⟨rfl,rfl⟩)
 go_ret
 exact⟨rfl,rfl⟩
theorem itoa_in (i:Nat)(h:i<100) (w:World) :
  Calls Tryz.prog 106 #[.int .i64 i] w fun e w'=>e=.returned (.string ⟨(Lib.decDigits i).toArray⟩)∧w=w':=by
 go_enter Tryz.func106,Tryz.ntmps106
 go_wp2_with (go_at_call 150;refine (itoa_format i h _).mono ?_;rintro e w1 ⟨rfl,rfl⟩)
 go_ret
 exact⟨rfl,rfl⟩
theorem lib_Itoa (i:Nat)(h:i<100) (w:World) :
  Calls Tryz.prog 52 #[.int .i64 i] w fun e w'=>e=.returned (.string ⟨(Lib.decDigits i).toArray⟩)∧w=w':=by
 go_enter Tryz.func52,Tryz.ntmps52
 go_wp2_with (go_at_call 106;refine (itoa_in i h _).mono ?_;rintro e w1 ⟨rfl,rfl⟩)
 go_ret
 exact⟨rfl,rfl⟩
end Go.Proofs.YtfcjhpodichpjaaGreatDoor
namespace Go.Proofs.YtfcjhpodichpjaaGreatDoor
open Go Go.RowKit
theorem zhb (s:ByteArray) (w:World):Calls Tryz.prog 23 #[.string s] w fun e w'=>(∃ t:ByteArray,e=.returned (.string t)∧Hid (t.data.toList=zdc s)∧t.size≤s.size+1)∧w=w':=by
 cases he:s.toList.isEmpty
 ·have H0:=za (zgL he)
  go_enter Tryz.func23,Tryz.ntmps23
  go_wp2
  go_ret
  exact⟨⟨_,rfl,za H0.out.symm,by omega⟩,rfl⟩
 ·have H0:=za (zgK he)
  go_enter Tryz.func23,Tryz.ntmps23
  go_wp2
  go_ret
  exact⟨⟨_,rfl,za H0.out.symm,Nat.le_add_left _ _⟩,rfl⟩
theorem made_s (n:Nat):(madeCells (Value.string ⟨#[]⟩).cells (n*1)).toList=zF (List.replicate n ⟨#[]⟩):=by
 simp [Value.cells,toList_madeCells_one,zF]
theorem fill_s {ds:List ByteArray} {m k:Nat} {v:ByteArray}(hk:ds.length=k)(hm:k<m):(zF (ds++List.replicate (m - k) ⟨#[]⟩)).set k (.string v)=zF ((ds++[v])++List.replicate (m - (k+1)) ⟨#[]⟩):=by
 have e:∀ (R:List ByteArray) (i:Nat),zF (R.set i v)=(zF R).set i (.string v):=fun R i=>by simp [zF,List.map_set]
 rw [← e,List.set_append_right _ _ (by omega),hk,Nat.sub_self,show m - k=(m - (k+1))+1 by omega,List.replicate_succ,List.set_cons_zero,List.append_assoc]
 rfl
theorem digS_take {l:List Int} {k u:Nat}(h:l[k]?=some (u:Int)):digS (l.take (k+1))=digS (l.take k)++[⟨(Lib.decDigits u).toArray⟩]:=by
 unfold digS
 rw [List.take_add_one,h,List.map_append]
 rfl
theorem zbx {lo hi:Nat} {A:Option Addr} {n c:Nat} {A':Option Addr} {n' c':Nat} {a:Aut} {w:World}(h:zM w lo hi A n A' n' a) :
  Calls Tryz.prog 22 #[.agg #[.int .i64 a.al,.slice A n c,.slice A' n' c']] w (zgO (zcd a) w):=by
 have HV:=za (fun W (hW:Ext w W)=>zbL lo hi A n c A' n' c' a W ⟨h.1.ext hW,h.2.1,h.2.2.ext hW⟩)
 cases h1:zh a
 ·have H1:=za h1
  have HX:=za (show zcd a=[] by unfold zcd;rw [h1];rfl)
  clear h1 h
  go_enter Tryz.func22,Tryz.ntmps22
  go_wp2_with (go_at_call 24;refine (HV.out _ ((Ext.refl _).alloc _)).mono ?_;rw [H1.out];rintro e w1 ⟨rfl,hx⟩)
  go_ret
  exact⟨_,rfl,za HX.out.symm,((Ext.refl _).alloc _).trans hx⟩
 ·have HX:=za (show zcd a=alX a.al.toNat++(zbO a).flatMap (32 :: ·) by unfold zcd;rw [h1];rfl)
  have Hsm:=za (zN h1)
  obtain⟨al,ha,ha2,hn1,hn2,hac,hrows⟩:=zcK h1
  have H1:=za h1
  have Hn:=za h.n1
  have Hn':=za h.n2
  have Ha:=za ha
  have HS:=za (fun W (hW:Ext w W)=>h.1.ext hW)
  have HB:=za (fun W (hW:Ext w W)=>h.2.2.ext hW)
  have e1:n=n':=by have:=h.n1;have:=h.n2;omega
  subst e1
  have hnn:n≤12:=by have:=h.n1;omega
  clear h1 ha hn1 hn2 hac hrows h
  go_enter Tryz.func22,Tryz.ntmps22
  go_wp2_with fail
  refine (HV.out _ ((Ext.refl _).alloc _)).mono ?_
  rw [H1.out]
  rintro e w1 ⟨rfl,hx⟩
  have b1:=zav hx
  rw [Ha.out] at b1
  have hw1:=((Ext.refl w).alloc _).trans hx
  have cb:=b1.cells
  have hr1:=Ext.refl w1
  clear hx
  go_wp2_with fail
  refine (zbG ha2).mono ?_
  rintro e w2 ⟨t2,rfl,ht2,hx2⟩
  have hat:al=a.al.toNat:=by have:=Ha.out;omega
  rw [hat] at ht2
  have hts:t2.size≤6:=by
   rw [zcZ ht2.out]
   exact alX_len _
  clear hat
  go_wp2_with fail
  go_loopw [3,4,5,6,7,8,9,19] (fun v _ _ _ _ _ _ i wr=>∃ (k:Nat) (t:ByteArray),k≤n∧i=.int .i64 k∧v=.string t∧t.size≤20+100*k∧Hid (t.data.toList=alX a.al.toNat++((zbO a).take k).flatMap (32 :: ·))∧Ext w1 wr) (fun _ _ _ _ _ _ _ i _=>n - (intOf i).toNat)
  case atStart=>exact⟨0,t2,Nat.zero_le _,rfl,rfl,by omega,za (by rw [ht2.out];simp),hx2⟩
  case round =>
   clear hx2 ht2 hr1 hts
   obtain⟨k,t,hk,rfl,rfl,ht,htx,zhL⟩:=hrel
   have cb0:=cb wr zhL
   by_cases hlt:k<n
   ·obtain⟨ad,Ak,ck,l,rfl,_,_,hl,hc0,hrk⟩:=(HS.out wr (hw1.trans zhL)).row hlt
    obtain⟨ad',x,rfl,_,_,hbx,hb0⟩:=(HB.out wr (hw1.trans zhL)).bool hlt
    have hsm:=za (Hsm.out.2.2.2.2.2 l (List.mem_of_getElem? hl.out))
    have hl6:l.length≤6:=hsm.out.2
    have Hrk:=za (fun W (hW:Ext wr W)=>hrk.ext hW)
    have Hcb:=za (fun W (hW:Ext wr W)=>cb W (zhL.trans hW))
    have Hbx:=za (fun W (hW:Ext wr W)=>hW.cell_some hb0)
    have Htk:=za (zgH hl.out hbx.out)
    obtain⟨ll,hll⟩:∃ ll,Hid (l.length=ll):=⟨_,za rfl⟩
    rw [hll.out] at hl6 hc0
    clear hrk hb0
    go_upto_region 8 with (at_make;refine zbT wr wr rfl _ _ 61 rfl 9 _ 1 16 Tryz.underlying61 zi _ _ ll rfl rfl (Ext.refl _) (by omega) (by unfold maxLen;omega) ?_;intro w3 hx3 zhU hx13 hsz3)
    rw [made_s] at zhU
    clear hx13
    obtain⟨g,hg⟩:∃ g,Hid (g=wr.heap.size):=⟨_,za rfl⟩
    rw [← hg.out] at zhU ⊢
    obtain⟨wK,hwK⟩:∃ wK,wK=wr:=⟨_,rfl⟩
    rw [← hwK] at Hrk Hcb Hbx hx3 zhL hg
    clear hwK cb0 hc0 hsz3
    go_wp2_with fail
    go_loopw [7,8,29] (fun _ _ jv wr=>∃ (j:Nat),j≤ll∧jv=.int .i64 j∧Hid (wr.ownsRow g 9 1 (.slice (some ⟨g,0,none⟩) ll ll) ll (zF (digS (l.take j)++List.replicate (ll - j) ⟨#[]⟩)))∧Ext wK wr) (fun _ _ jv _=>ll - (intOf jv).toNat)
    case atStart=>exact⟨0,Nat.zero_le _,rfl,za (by simpa [digS] using zhU),hx3⟩
    case round =>
     clear zhU hx3
     obtain⟨j,hj,rfl,zhJ,hwx⟩:=hrel
     by_cases hjl:j<ll
     ·obtain⟨ad2,q,rfl,-,-,hql,hcq⟩:=(Hrk.out wr hwx).int (k:=j) (by rw [hll.out];exact hjl)
      obtain⟨hq0,hq1⟩:=hsm.out.1 q (List.mem_of_getElem? hql.out)
      obtain⟨u,rfl⟩:∃ u:Nat,q=u:=⟨q.toNat,by omega⟩
      have hu:u<100:=by omega
      have hdl:(digS (l.take j)).length=j:=by unfold digS;rw [List.length_map,List.length_take,hll.out];omega
      obtain⟨o0,g0⟩:=zbJ zhJ.out j (by omega)
      have f0:=zhJ.out.frozenAt j
      have hst:=(zhJ.out.stored j (.string ⟨(Lib.decDigits u).toArray⟩)).1
      rw [fill_s hdl hjl,← digS_take hql.out] at hst
      have hHst:=za hst
      have hg0:=hg.out
      have hext2:=hwx.setCell (p:=⟨g,j,none⟩) (by rw [hg0];exact Nat.le_refl _) (.string ⟨(Lib.decDigits u).toArray⟩)
      clear hst hdl hq0 hq1 hg0
      go_wp2_with (go_at_call 52;refine (lib_Itoa u hu _).mono ?_;rintro e w' ⟨rfl,rfl⟩)
      go_roundw
      case rel=>exact⟨j+1,by omega,by go_num,hHst,hext2⟩
      case measure=>simp [intOf];omega
     ·obtain rfl:j=ll:=by omega
      have hown':=za (show wr.ownsRow g 9 1 (.slice (some ⟨g,0,none⟩) j j) j (zF (digS l)) by
       have:=zhJ.out
       rwa [Nat.sub_self,List.replicate_zero,List.append_nil,← hll.out,List.take_length,hll.out] at this)
      have cb0:=Hcb.out wr hwx
      have hb0:=Hbx.out wr hwx
      have hgo:=za (fun (m:ByteArray) (hm:m.data.toList=[32,if x then 43 else 45]) (z:ByteArray) (hz:z.data.toList=zaQ (l.map Int.toNat))=>show (t++(m++z)).data.toList=alX a.al.toNat++((zbO a).take (k+1)).flatMap (32 :: ·) from by
       rw [zcG rfl (zcG hm hz),htx.out,Htk.out,List.append_assoc]
       unfold zgG
       simp)
      have hjz:=za (fun (z:ByteArray) (hz:z.data.toList=zaQ (l.map Int.toNat))=>show z.size≤18 from by
       rw [zcZ hz]
       have:=zfB hsm.out.1.nat
       have h2:=hsm.out.2
       rw [List.length_map] at this
       omega)
      clear zhJ Hrk Hbx
      go_upto_if 44 with fail
      go_cut [9] (fun s9 wx=>∃ m:ByteArray,s9=.string m∧m.size=2∧Hid (m.data.toList=[32,if x then 43 else 45])∧wx=wr)
      case first =>
       cases x
       ·go_wp2_with fail
        go_meet
        exact⟨{ data:=#[32,45] },rfl,rfl,za rfl,rfl⟩
       ·go_wp2_with fail
        go_meet
        exact⟨{ data:=#[32,43] },rfl,rfl,za rfl,rfl⟩
      case rest =>
       obtain⟨m,rfl,hm2,hmx,rfl⟩:=hcut
       go_wp2_with fail
       refine (lib_Join (by have:=hsm.out.2;omega) hsm.out.1 hown'.out).mono ?_
       rintro e w4 ⟨z,rfl,hz,hx4⟩
       have hz18:=hjz.out z hz.out
       have q0:¬ 9223372036854775807<m.size+z.size:=by omega
       have q1:¬ 9223372036854775807<t.size+(m.size+z.size):=by omega
       go_wp2_with fail
       go_roundw
       case rel=>exact⟨k+1,_,by omega,by go_num,rfl,by rw [ByteArray.size_append,ByteArray.size_append];omega,za (hgo.out m hmx.out z hz.out),(zhL.trans hwx).trans hx4⟩
       case measure=>simp [intOf];omega
   ·obtain rfl:k=n:=by omega
    have zhM:=za (show (zbO a).take k=zbO a from by
     refine List.take_of_length_le ?_
     have h1:=Hsm.out.2.2.1
     have h2:=Hn.out
     unfold zbO
     rw [List.length_map,List.length_zip]
     omega)
    go_wp2_with fail
    go_ret
    exact⟨t,rfl,za (by rw [HX.out,htx.out,zhM.out]),hw1.trans zhL⟩
def zgr (B:Nat) (o:Loop) (W:World):Prop:=W.heap[B+1]?=some (.loop o)∧W.heap[B]?=some (.deferred (some []))
section
variable {W W':World} {B b:Nat} {o o':Loop}
theorem heap_set {k:Nat} {x:Obj} (v:Value)(hk:W.heap[k]?=some x)(hb:k≠b):(W.setCell ⟨b,0,none⟩ v).heap[k]?=some x:=
 ((Frm.setCell W b 0 v).block k (Array.getElem?_eq_some_iff.1 hk).1 hb).trans hk
theorem zgr.set (h:zgr B o W)(hb:b<B) (v:Value):zgr B o (W.setCell ⟨b,0,none⟩ v):=⟨heap_set v h.1 (by omega),heap_set v h.2 (by omega)⟩
theorem zgr.walk {row:Option Nat}(h:zgr B o W)(hg:W.grownBy W' row)(hr:∀ r,row=some r→∃ x:Obj,W.heap[r]?=some x∧x.isWalk=true):zgr B o W':=
 ⟨(grownBy_keeps hg hr h.1 rfl).trans h.1,(grownBy_keeps hg hr h.2 rfl).trans h.2⟩
theorem zgr.kept (h:zgr B o W)(hk:KeepsOthers W W'):zgr B o W':=⟨hk.same _ _ h.1 rfl,hk.same _ _ h.2 rfl⟩
theorem zgr.put (h:zgr B o W) (o':Loop):zgr B o' (W.putObj (B+1) (.loop o')):=
 ⟨World.putObj_heap_same (Array.getElem?_eq_some_iff.1 h.1).1,(World.putObj_heap_other (by omega)).trans h.2⟩
end
def zgP {β:Type} (b:Nat) (J:β→World→Prop):Prop:=∀ s W v,J s W→J s (W.setCell ⟨b,0,none⟩ v)
def SeqCell {α:Type} (F:Fence) (n:Nat) (P:Program) (g:Nat) (lb:Array Value) (enc:α→Value) (Kp:World→World→Prop) (S Sp:List α→Prop) (b:Nat) (w:World):Prop:=
 ∀ (l:Nat) (J Jx:List α→World→Prop) (W:World),Below w.heap.size w W→AbidesFrom W.heap.size J→AbidesFrom W.heap.size Jx→zgP b J→zgP b Jx →
  (∀ pre x W1,J pre W1→Sp (pre++[x])→YieldAt F (n - 1) P l #[enc x] W1 fun e W'=>(e=.returned (.bool true)∧J (pre++[x]) W'∧Kp W1 W')∨(e=.returned (.bool false)∧Jx (pre++[x]) W')) →
  J [] W →
  CallsIn F n P g (#[.func (.yield l) #[] #[]]++lb) W fun e W'=>(∃ v,e=.returned v)∧((∃ xs,S xs∧J xs W')∨(∃ pre,Sp pre∧Jx pre W'))
def roundP {α:Type} (Kp:World→World→Prop) (I Ix:List α→World→Prop) (xs:List α) (W:World):Exit→Act→World→Prop
 |.normal,_,W'=>KeepsOthers W W'∧Kp W W'∧I xs W'
 |.ret,_,W'=>KeepsOthers W W'∧Ix xs W'
 |_,_,_=>False
section
variable {F:Fence} {n:Nat} {P:Program}
theorem zdY {α:Type} {g:Operand} {p:Tmp} {assign body:Code} {Q:Exit→Act→World→Prop} {a:Act} {w:World}
  (hro:F.round=none) (h1:1≤n) {gf:Nat} {lb:Array Value} (hg:a.eval g=.func (.func gf) #[] lb) (hFg:F.fn gf) (eg:∀ args w,(callFunc gf args).run P w=.ok (.enter gf args) w)
  {enc:α→Value} {Kp:World→World→Prop} {S Sp:List α→Prop} {b:Nat} (hseq:SeqCell F (n - 1) P gf lb enc Kp S Sp b w) (hb:b<w.heap.size)
  (hKt:∀ {A B C:World},Kp A B→Kp B C→Kp A C) (hKb:∀ (W:World) (o o':Loop),zgr w.heap.size o W→Kp W (W.putObj (w.heap.size+1) (.loop o')))
  (I Ix:List α→World→Prop) (hI:OwnFrom w.heap.size I) (hIx:OwnFrom w.heap.size Ix) (hIs:zgP b I) (hIxs:zgP b Ix) (h0:I [] w) (a₁:α→Act)
  (hassign:∀ (l:Nat) (x:α) (W:World) (K:Act→World→Prop),K (a₁ x) W →
   assign.wpIn (F.inRound l) (n - 1 - 1) P (Exit.then K (fun _ _ _=>False)) { tmps:=(#[p].zip #[enc x]).foldl (fun t (p,v)=>t.setIfInBounds p v) a.tmps,defers:=[] } W)
  (hbody:∀ (l:Nat) (pre:List α) (x:α) (W:World),Sp (pre++[x])→I pre W→body.wpIn (F.inRound l) (n - 1 - 1) P (roundP Kp I Ix (pre++[x]) W) (a₁ x) W)
  (hdone:∀ (xs:List α) (W:World),S xs→I xs W→W.heap[w.heap.size]?=some (.deferred (some []))→Q .normal { a with defers:={ target:=.collected w.heap.size,args:=#[] } :: a.defers } W)
  (hstop:∀ (pre:List α) (W:World),Sp pre→Ix pre W→W.heap[w.heap.size]?=some (.deferred (some []))→Code.ret.wpIn F n P Q { a with defers:={ target:=.collected w.heap.size,args:=#[] } :: a.defers } W) :
  (Code.rangeFunc g #[p] assign body).wpIn F n P Q a w:=by
 refine wpIn_rangeFunc fun fn hfn=>?_
 rw [hro]
 generalize hB:w.heap.size=B at *
 obtain⟨rec,hrec⟩:∃ rec:LoopState→Option Code→Loop,rec=fun st pe=>{ state:=st,pending:=pe,fn,tmps:=a.tmps,params:=#[p],assign,body,defers:=B }:=⟨_,rfl⟩
 have hput:∀ {J:List α→World→Prop} {s:List α} {W:World} {o:Loop} (o':Loop),OwnFrom B J→J s W→zgr B o W→J s (W.putObj (B+1) (.loop o')):=fun o' hJ hs hl=>hJ.putObj _ hs (by omega) hl.1 rfl
 obtain⟨W1,hW1⟩:∃ W1,(w.alloc (.deferred (some []))).alloc (.loop (rec .ready none))=W1:=⟨_,rfl⟩
 have s1:W1.heap.size=B+2:=by rw [← hW1];simp [hB]
 have hl1:zgr B (rec .ready none) W1:=by
  have e:=World.alloc_heap_new (w.alloc (.deferred (some []))) (.loop (rec .ready none))
  rw [World.size_alloc,hB] at e
  rw [← hW1]
  exact⟨e,(Below.heap_alloc _ _ _ (by simp [hB])).trans (by rw [← hB];exact World.alloc_heap_new w _)⟩
 have hi1:I [] W1:=by rw [← hW1];exact hI.alloc _ (hI.alloc _ h0)
 have hb1:Below w.heap.size w W1:=by rw [← hW1];exact ((Below.refl _ w).alloc (Nat.le_refl _) _).alloc (by simp) _
 have hrow:∀ {A:World} {row:Option Nat},(∀ r,row=some r→W1.heap.size≤r∧∃ x:Obj,A.heap[r]?=some x∧x.isWalk=true)→∀ r,row=some r→B≤r∧∃ x:Obj,A.heap[r]?=some x∧x.isCells=false:=fun hr r e=>by
  obtain⟨h,x,hx,hw⟩:=hr r e
  exact⟨by omega,x,hx,Obj.not_cells_of_walk hw⟩
 have hpair:∀ {J:List α→World→Prop} {o:Loop},OwnFrom B J→AbidesFrom W1.heap.size (fun s W=>J s W∧zgr B o W):=fun hJ s A C row hs hg hr=>⟨hJ s A C row hs.1 hg (hrow hr),hs.2.walk hg (fun r e=>(hr r e).2)⟩
 have hset:∀ {J:List α→World→Prop} {o:Loop},zgP b J→zgP b (fun s W=>J s W∧zgr B o W):=fun hJ s A v hs=>⟨hJ s A v hs.1,hs.2.set hb v⟩
 refine⟨B+1,[{ target:=.collected B,args:=#[] }],W1,{ target:=.fn (.func gf) lb,args:=#[.func (.yield (B+1)) #[] #[]] },W1,gf,#[.func (.yield (B+1)) #[] #[]]++lb,W1,
  by rw [← hW1,hrec,← hB];exact run_enterLoop_outer _ _ _ _ _,by simp only [resolve,hg];simp [go_sem],fun f' hf'=>by simp [Target.leads] at hf';subst hf';exact hFg,by simp [invoke,go_sem,eg],fun _=>h1,?_⟩
 refine (hseq (B+1) (fun s W=>I s W∧zgr B (rec .ready none) W) (fun s W=>Ix s W∧zgr B (rec .done (some .ret)) W) W1 hb1 (hpair hI) (hpair hIx) (hset hIs) (hset hIxs) ?_ ⟨hi1,hl1⟩).mono ?_
 ·rintro pre x W ⟨hi,hl⟩ hsp
  have hy:=run_yield (P:=P) (args:=#[enc x]) hl.1 (by rw [hrec];rfl)
  rw [hrec] at hy
  have hl2:=hl.put { rec .ready none with state:=.busy }
  refine⟨fn,_,assign,body,hy,roundIn_of_wpIn hfn (hassign _ x W _ ⟨_,run_beginRound hl.1 (by rw [hrec]),wpIn_mono (hbody _ pre x _ hsp (hput _ hI hi hl)) ?_⟩)⟩
  have hend:∀ (jump:Option Code) (W3:World),zgr B { rec .ready none with state:=.busy } W3→(Instr.endRound (B+1) jump).run P W3=.ok (.bool jump.isNone) (W3.putObj (B+1) (.loop (rec (if jump.isNone then .ready else .done) jump))):=fun jump W3 h3=>by
   have:=run_endRound (P:=P) jump h3.1
   rw [hrec] at this ⊢
   exact this
  rintro e a3 W3 hp
  cases e with
  |normal =>
   have h3:=hl2.kept hp.1
   exact⟨_,_,hend none W3 h3,.inl ⟨rfl,⟨hput _ hI hp.2.2 h3,h3.put _⟩,hKt (hKt (hKb _ _ _ hl) hp.2.1) (hKb _ _ _ h3)⟩⟩
  |ret =>
   have h3:=hl2.kept hp.1
   exact⟨_,_,hend (some .ret) W3 h3,.inr ⟨rfl,hput _ hIx hp.2 h3,h3.put _⟩⟩
  |exit id=>exact hp.elim
  |goto t=>exact hp.elim
  |panic ch=>exact hp.elim
  |outgrown=>exact hp.elim
 ·rintro e W2 ⟨⟨v,rfl⟩,(⟨xs,hS,hi,hl⟩|⟨pre,hsp,hi,hl⟩)⟩
  ·exact⟨none,_,by have:=run_endLoop (P:=P) hl.1 (by rw [hrec];simp);rw [hrec] at this ⊢;exact this,hdone xs _ hS (hput _ hI hi hl) (hl.put (rec .exhausted none)).2⟩
  ·exact⟨some .ret,_,by have:=run_endLoop (P:=P) hl.1 (by rw [hrec];simp);rw [hrec] at this ⊢;exact this,hstop pre _ hsp (hput _ hIx hi hl) (hl.put (rec .exhausted (some .ret))).2⟩
end
end Go.Proofs.YtfcjhpodichpjaaGreatDoor
