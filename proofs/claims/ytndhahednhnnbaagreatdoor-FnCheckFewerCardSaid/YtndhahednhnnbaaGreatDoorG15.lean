/- spec.l13Draw and spec.l13Wrong, by their shape. | spec.DrawChainLetters, by its shape. | spec.DrawCheckCertificate, by its shape. | What the laws on certificates lean on. | Bytes, as a row's argument. | A system without its first edge, in new memory. -/
import Derived.Test.YtndhahednhnnbaaGreatDoorG03
import Derived.Test.YtndhahednhnnbaaGreatDoorG08
import Derived.Test.YtndhahednhnnbaaGreatDoorG14
import Derived.Test.YtndhahednhnnbaaGreatDoorG04
import Derived.Test.YtndhahednhnnbaaGreatDoorG10
import Derived.Test.YtndhahednhnnbaaGreatDoorG11
import Derived.Test.YtndhahednhnnbaaGreatDoorG01
import Derived.Deep.DeepCutAuto
namespace Go.Proofs.YtndhahednhnnbaaGreatDoor
open Go Go.RowKit
set_option maxHeartbeats 4000000
structure CeAt (w0 W:World) (R M K J:Nat) (a:Aut) (B:Option Addr) (m d:Nat) (B':Option Addr) (m' d':Nat) (x:ByteArray):Prop where
 own:zX W (R+1) B m d B' m' d' a
 bd:Hid (BdA K a∧x.size≤J)
 rd:Rd W R M
 dr:Dr R w0 W
 hR:R<w0.heap.size
def RetCe (R M K J:Nat) (w:World) (e:Ending) (w':World):Prop:=
 ∃ (hd:Bool) (a:Aut) (B:Option Addr) (m d:Nat) (B':Option Addr) (m' d':Nat) (x:ByteArray),e=.returned (.agg #[.bool hd,.int .i64 a.al,.slice B m d,.slice B' m' d',.string x])∧CeAt w w' R M K J a B m d B' m' d' x
section
variable {w0 W W':World} {R M K J N H I Z m d m' d':Nat} {a:Aut} {B B':Option Addr} {x:ByteArray} {hd:Bool}
theorem CeAt.drawn (h:CeAt w0 W R M K J a B m d B' m' d' x)(hd:Dr R W W')(hr:Rd W' R N):CeAt w0 W' R N K J a B m d B' m' d' x:=
 ⟨h.own.keep hd (fun b h1 e=>by omega),h.bd,hr,h.dr.trans hd,h.hR⟩
theorem CeAt.ext (h:CeAt w0 W R M K J a B m d B' m' d' x)(hx:Ext W W'):CeAt w0 W' R M K J a B m d B' m' d' x:=h.drawn hx.dr (h.rd.ext hx)
theorem CeAt.more (h:CeAt w0 W R M K J a B m d B' m' d' x)(hM:M≤N)(hK:K≤H)(hJ:J≤I):CeAt w0 W R N H I a B m d B' m' d' x:=
 ⟨h.own,hide ⟨BdL.more h.bd.out.1 hK,Nat.le_trans h.bd.out.2 hJ⟩,h.rd.more hM,h.dr,h.hR⟩
theorem CeAt.far {ty:TypeId} {cs:Array Value}(h:CeAt w0 W R M K J a B m d B' m' d' x)(hB:Blk W Z ty cs)(hf:Frm (fun k=>k=Z) W W')(hZ:w0.heap.size≤Z)(h2:ty≠3∧ty≠71∧ty≠4):CeAt w0 W' R M K J a B m d B' m' d' x:=
 ⟨h.own.farT hB hf h2,h.bd,h.rd.frm hf (fun k hk e=>by have:=h.hR;omega),h.dr.far hf hZ,h.hR⟩
theorem CeAt.less {w1:World}(h:CeAt w0 W R M K J a B m d B' m' d' x)(hd:Dr R w1 w0)(hR:R<w1.heap.size):CeAt w1 W R M K J a B m d B' m' d' x:=
 ⟨h.own,h.bd,h.rd,hd.trans h.dr,hR⟩
theorem CeAt.fin {us:Array Value}(h:CeAt w0 W R M K J a B m d B' m' d' x)(hz:Blk W Z 45 us)(h5:us.size=5)(hZ:w0.heap.size≤Z) :
  Hid (RetCe R M K J w0 (.returned (.agg #[.bool hd,.int .i64 a.al,.slice B m d,.slice B' m' d',.string x])) (((((W.setCell ⟨Z,0,none⟩ (.bool hd)).setCell ⟨Z,1,none⟩ (.int .i64 a.al)).setCell ⟨Z,2,none⟩ (.slice B m d)).setCell ⟨Z,3,none⟩ (.slice B' m' d')).setCell ⟨Z,4,none⟩ (.string x))) ∧
  Hid (Blk (((((W.setCell ⟨Z,0,none⟩ (.bool hd)).setCell ⟨Z,1,none⟩ (.int .i64 a.al)).setCell ⟨Z,2,none⟩ (.slice B m d)).setCell ⟨Z,3,none⟩ (.slice B' m' d')).setCell ⟨Z,4,none⟩ (.string x)) Z 45 #[.bool hd,.int .i64 a.al,.slice B m d,.slice B' m' d',.string x]):=by
 have hf:=zat W Z (.bool hd) (.int .i64 a.al) (.slice B m d) (.slice B' m' d') (.string x)
 exact⟨hide ⟨hd,a,B,m,d,B',m',d',x,rfl,h.far hz hf hZ (by decide)⟩,hide (zaw hz h5 _ _ _ _ _)⟩
end
theorem bd_valid {a:Aut}(h:zf a=true∨a=noA):BdA 12 a:=by
 rcases h with h|rfl
 ·obtain⟨h0,⟨h1,h2⟩,h3,h4⟩:=zj h
  refine⟨h2,by omega,fun l hl=>?_⟩
  obtain⟨q,hq⟩:=List.getElem?_of_mem hl
  rw [(h4 q l hq).1]
  exact Nat.le_trans (zB _ _) (by omega)
 ·exact⟨Nat.zero_le _,Nat.zero_le _,fun l hl=>by simp [noA] at hl⟩
theorem bd_autX (s t:Sys) (p:Aut):BdA 12 (autX (vpT s t p).code (vpT s t p).asm (vpT s t p).tr)∧(strX (vpT s t p).code (vpT s t p).asm (vpT s t p).tr).size≤4000:=by
 refine⟨?_,?_⟩
 ·unfold autX
  split
  ·exact bd_valid (vpT_asm s t p)
  ·exact bd_valid (.inr rfl)
 ·unfold strX
  split
  ·exact (zhE s t p).2
  ·exact Nat.zero_le _
theorem iface_and (s t:Sys) (p:Aut):∃ a:Nat,a<64∧bits .and .i64 (iface s p t) 63=(a:Int):=by
 rcases zde s t p with h|⟨L,h⟩
 ·rw [h];exact⟨63,by omega,by decide⟩
 ·rw [h]
  exact⟨L&&&63,by have:=Nat.and_le_right (n:=L) (m:=63);omega,zci (by have:=zhp h;unfold Sm;omega) (by unfold Sm;decide)⟩
theorem sl_pairR {w:World} {R g n c k c2:Nat} {A C:Option Addr} {s t:Sys}(hb:Blk w g 39 #[.int .i64 s.al,.int .i64 s.st,.slice A n c,.int .i64 t.al,.int .i64 t.st,.slice C k c2])(hg:R<g)(h:zbk w R A n s)(h':zbk w R C k t):SLAt w (R+1) w.heap.size (some ⟨g,0,none⟩) 2 [s,t]:=by
 refine⟨rfl,[.int .i64 s.al,.int .i64 s.st,.slice A n c,.int .i64 t.al,.int .i64 t.st,.slice C k c2],⟨rfl,by omega,fun _=>⟨_,rfl,hg,hb.lt,fun j u hu=>?_⟩⟩,fun j u hu=>?_⟩
 ·rw [zT,Nat.zero_add,hb.cell]
  simpa using hu
 ·match j with
  |0 =>
   simp at hu;subst hu
   exact⟨A,n,c,rfl,rfl,rfl,h.at_⟩
  |1 =>
   simp at hu;subst hu
   exact⟨C,k,c2,rfl,rfl,rfl,h'.at_⟩
  |j+2=>simp at hu
theorem yG15a1 {P:Prop}(h:P:=by
 go_wp2_with fail
 have cf:=f2.out.cell
 exact bodyPost_ret (v:=.agg #[.bool false,.int .i64 0,.slice none 0 0,.slice none 0 0,.string x]) (by simp [results,Tryz.results56,go_sem,cf]) rfl f1.out
 ):P:=h
set_option maxRecDepth 100000 in
theorem spec_l13Draw {R M L K n c k c2 m d m' d':Nat} {s t:Sys} {p:Aut} {A B B' C:Option Addr} {w:World}(h:zbq w w R M L K s A n c t C k c2 p B m d B' m' d')(hM:M≤600000000)(hL:L≤100000) :
  Calls Tryz.prog 56 #[.pointer (some ⟨R,0,none⟩),.agg #[.int .i64 s.al,.int .i64 s.st,.slice A n c],.agg #[.int .i64 t.al,.int .i64 t.st,.slice C k c2],.agg #[.int .i64 p.al,.slice B m d,.slice B' m' d']] w (RetCe R (M+1000) 16 4000 w):=by
 have hRl:=h.hR
 have hx0:Ext w ((((w.alloc (.cells #[.int .i64 s.al,.int .i64 s.st,.slice A n c] 39)).alloc (.cells #[.int .i64 t.al,.int .i64 t.st,.slice C k c2] 39)).alloc (.cells #[.int .i64 p.al,.slice B m d,.slice B' m' d'] 27)).alloc (.cells #[.bool false,.int .i64 0,.slice none 0 0,.slice none 0 0,.string ⟨#[]⟩] 45)):=((((Ext.refl _).alloc _).alloc _).alloc _).alloc _
 obtain⟨b1,b2,b3⟩:=zQ ((Ext.refl _).alloc _:Ext (((w.alloc (.cells #[.int .i64 s.al,.int .i64 s.st,.slice A n c] 39)).alloc (.cells #[.int .i64 t.al,.int .i64 t.st,.slice C k c2] 39)).alloc (.cells #[.int .i64 p.al,.slice B m d,.slice B' m' d'] 27)) ((((w.alloc (.cells #[.int .i64 s.al,.int .i64 s.st,.slice A n c] 39)).alloc (.cells #[.int .i64 t.al,.int .i64 t.st,.slice C k c2] 39)).alloc (.cells #[.int .i64 p.al,.slice B m d,.slice B' m' d'] 27)).alloc (.cells #[.bool false,.int .i64 0,.slice none 0 0,.slice none 0 0,.string ⟨#[]⟩] 45)))
 have bz:=Blk.new (((w.alloc (.cells #[.int .i64 s.al,.int .i64 s.st,.slice A n c] 39)).alloc (.cells #[.int .i64 t.al,.int .i64 t.st,.slice C k c2] 39)).alloc (.cells #[.int .i64 p.al,.slice B m d,.slice B' m' d'] 27)) 45 #[.bool false,.int .i64 0,.slice none 0 0,.slice none 0 0,.string ⟨#[]⟩]
 simp only [World.size_alloc] at bz
 go_enter Tryz.func56,Tryz.ntmps56
 go_upto_region 1 with fail
 generalize (((w.alloc (.cells #[.int .i64 s.al,.int .i64 s.st,.slice A n c] 39)).alloc (.cells #[.int .i64 t.al,.int .i64 t.st,.slice C k c2] 39)).alloc (.cells #[.int .i64 p.al,.slice B m d,.slice B' m' d'] 27)).alloc (.cells #[.bool false,.int .i64 0,.slice none 0 0,.slice none 0 0,.string ⟨#[]⟩] 45)=w0 at *
 have ht0:=h.ext hx0
 have hz0:=bz.lt
 have cS:=b1.cell
 have cT:=b2.cell
 have cP:=b3.cell
 obtain⟨vhd,hvhd⟩:∃ v,hdX (vpT s t p).code (vpT s t p).asm (vpT s t p).tr=v:=⟨_,rfl⟩
 obtain⟨vau,hvau⟩:∃ v,autX (vpT s t p).code (vpT s t p).asm (vpT s t p).tr=v:=⟨_,rfl⟩
 obtain⟨vst,hvst⟩:∃ v,strX (vpT s t p).code (vpT s t p).asm (vpT s t p).tr=v:=⟨_,rfl⟩
 obtain⟨vok,hvok⟩:∃ v,okC (vpT s t p).code (vpT s t p).asm (vpT s t p).tr=v:=⟨_,rfl⟩
 have hC:=hide (zff (c:=c) (d:=d) (d':=d') (c2:=c2) ht0.is.at_ ht0.ip.reads ht0.it.at_ (by have:=ht0.ns;omega) (Nat.le_refl _))
 have hbv:=hide (bd_autX s t p)
 rw [hvhd,hvau,hvst,hvok] at hC
 rw [hvau,hvst] at hbv
 clear hvhd hvau hvst hvok
 go_upto_region 2 with (first
  |(go_at_call 109;refine (hC.out).mono ?_;rintro e w1 ⟨D,q,f,D',q',f',rfl,ho,hx1⟩;clear cS cT cP))
 have hw1:=hx1.size
 have hx2:=(Ext.refl w1).alloc (.cells #[.bool vhd,.int .i64 vau.al,.slice D q f,.slice D' q' f',.string vst] 45)
 have bc:=Blk.new w1 45 #[.bool vhd,.int .i64 vau.al,.slice D q f,.slice D' q' f',.string vst]
 have hRw0:=ht0.rd.lt
 have hce:CeAt w (w1.alloc (.cells #[.bool vhd,.int .i64 vau.al,.slice D q f,.slice D' q' f',.string vst] 45)) R M 12 4000 vau D q f D' q' f' vst:=⟨(ho.ext hx2).less (by omega),hbv,(ht0.rd.ext hx1).ext hx2,((ht0.dr.ext hx1).ext hx2),hRl⟩
 have ht2:=(ht0.ext hx1).ext hx2
 have hb12:=hx1.trans hx2
 replace b1:=b1.ext hb12
 replace b2:=b2.ext hb12
 replace b3:=b3.ext hb12
 replace bz:=bz.ext hb12
 clear ho hx2 hb12 ht0 hC
 generalize hG:w1.heap.size=G at *
 generalize w1.alloc (.cells #[.bool vhd,.int .i64 vau.al,.slice D q f,.slice D' q' f',.string vst] 45)=w2 at *
 go_wp2_with fail
 refine (zv ht2.rd (by omega)).mono ?_
 rintro e w3 ⟨y,rfl,-,-,hr3,hd3⟩
 have ht3:=ht2.drawn hd3 hr3
 replace hce:=hce.drawn hd3 hr3
 have hR3:=ht3.rd.lt
 replace b1:=b1.dr hd3 (by omega)
 replace b2:=b2.dr hd3 (by omega)
 replace b3:=b3.dr hd3 (by omega)
 replace bz:=bz.dr hd3 (by omega)
 replace bc:=bc.dr hd3 (by omega)
 have hHG:=hide (show w.heap.size+4≤G by omega)
 clear ht2 hd3 hr3 hx1 hG hw1 hz0 hRw0
 by_cases hy0:y=0
 ·subst hy0
  have cS:=b1.cell
  have cT:=b2.cell
  have cP:=b3.cell
  obtain⟨al,ha,hal⟩:=iface_and s t p
  go_wp2_with fail
  refine (zaV (c:=c) (d1:=d) (d1':=d') (c2:=c2) ht3.is.at_ ht3.ip.reads ht3.it.at_).mono ?_
  rintro e w4 ⟨rfl,hx4⟩
  generalize iface s p t=ifc at *
  clear cS cT cP
  go_wp2_with fail
  refine (zgi (ht3.rd.ext hx4) (by omega) ha).mono ?_
  rintro e w5 ⟨b,E,n5,c5,E',n5',c5',rfl,ho5,hg5,hr5,hd5⟩
  have hw4:=hx4.size
  have bz5:=(bz.ext hx4).dr hd5 (by omega)
  have hce5:CeAt w w5 R (M+1+500) 16 0 b E n5 c5 E' n5' c5' ⟨#[]⟩:=⟨ho5.less (by omega),hide ⟨BdA.of hg5.out,Nat.le_refl _⟩,hr5,(ht3.dr.ext hx4).trans hd5,hRl⟩
  obtain⟨f1,f2⟩:=(hce5.more (N:=M+1000) (H:=16) (I:=4000) (by omega) (by omega) (by omega)).fin (hd:=true) bz5 rfl (by omega)
  have cZ:=bz5.cell
  have fZ:=bz5.frozen
  clear bz5 hce5 ho5
  go_wp2_with fail
  have cf:=f2.out.cell
  exact bodyPost_ret (v:=.agg #[.bool true,.int .i64 b.al,.slice E n5 c5,.slice E' n5' c5',.string ⟨#[]⟩]) (by simp [results,Tryz.results56,go_sem,cf]) rfl f1.out
 by_cases hy1:y=1
 ·subst hy1
  have cS:=b1.cell
  have cT:=b2.cell
  go_upto_region 6 with fail
  have hx4:=(Ext.refl w3).alloc (.cells #[.int .i64 s.al,.int .i64 s.st,.slice A n c,.int .i64 t.al,.int .i64 t.st,.slice C k c2] 39)
  have bl:=Blk.new w3 39 #[.int .i64 s.al,.int .i64 s.st,.slice A n c,.int .i64 t.al,.int .i64 t.st,.slice C k c2]
  have hsl:=sl_pairR (R:=R) bl hR3 (ht3.is.ext hx4) (ht3.it.ext hx4)
  have ht4:=ht3.ext hx4
  replace bz:=bz.ext hx4
  have HT:=hide (spec_l7Trace (c:=2) (q:=5) ht4.rd (by omega) hsl (by omega) (by omega))
  clear hsl bl
  go_wp2_with fail
  refine HT.out.mono ?_
  rintro e w5 ⟨x,rfl,hx,hr5,hd5⟩
  have hce5:CeAt w w5 R (M+1+2*5+2) 0 5 autZ none 0 0 none 0 0 x:=⟨zhr _ _,hide ⟨bd_autZ _,hx⟩,hr5,ht4.dr.trans hd5,hRl⟩
  have bz5:=bz.dr hd5 (by omega)
  obtain⟨f1,f2⟩:=(hce5.more (N:=M+1000) (H:=16) (I:=4000) (by omega) (by omega) (by omega)).fin (hd:=false) bz5 rfl (by omega)
  dsimp only [autZ] at f1 f2
  have cZ:=bz5.cell
  have fZ:=bz5.frozen
  clear bz5 hce5 cS cT
  exact yG15a1
 by_cases hy2:y=2
 ·subst hy2
  go_wp2_with fail
  refine (spec_l1Word (a:=7) (q:=4) ht3.rd (by omega) (by omega) (by omega)).mono ?_
  rintro e w5 ⟨x,rfl,hx,hr5,hd5⟩
  have hce5:CeAt w w5 R (M+1+4+2) 0 5 autZ none 0 0 none 0 0 x:=⟨zhr _ _,hide ⟨bd_autZ _,by omega⟩,hr5,ht3.dr.trans hd5,hRl⟩
  have bz5:=bz.dr hd5 (by omega)
  obtain⟨f1,f2⟩:=(hce5.more (N:=M+1000) (H:=16) (I:=4000) (by omega) (by omega) (by omega)).fin (hd:=false) bz5 rfl (by omega)
  dsimp only [autZ] at f1 f2
  have cZ:=bz5.cell
  have fZ:=bz5.frozen
  clear bz5 hce5
  exact yG15a1
 have h0:((y:Int)==0)=false:=by simp;omega
 have h1:((y:Int)==1)=false:=by simp;omega
 have h2:((y:Int)==2)=false:=by simp;omega
 clear b1 b2 b3 hy0 hy1 hy2 ht3
 go_upto_block 0 with fail
 go_cut [] (fun wx=>∃ (hd:Bool) (a:Aut) (B:Option Addr) (m d:Nat) (B':Option Addr) (m' d':Nat) (x:ByteArray),Blk wx G 45 #[.bool hd,.int .i64 a.al,.slice B m d,.slice B' m' d',.string x]∧Blk wx (w.heap.size+1+1+1) 45 #[.bool false,.int .i64 0,.slice none 0 0,.slice none 0 0,.string ⟨#[]⟩]∧CeAt w wx R (M+1000) 16 4000 a B m d B' m' d' x)
 case first =>
  have cG:=bc.cell
  have fG:=bc.frozen
  have hGZ:G≠w.heap.size+1+1+1:=by have:=hHG.out;omega
  have hHG':=hHG.out
  by_cases hy3:y=3
  ·subst hy3
   cases vok
   ·go_wp2_with fail
    go_meet
    exact⟨_,_,_,_,_,_,_,_,_,bc,bz,hce.more (by omega) (by omega) (by omega)⟩
   ·cases vhd
    ·go_wp2_with fail
     go_meet
     exact⟨_,_,_,_,_,_,_,_,_,bc,bz,hce.more (by omega) (by omega) (by omega)⟩
    ·go_wp2_with fail
     refine (zev hce.rd (by omega) hce.own hce.bd.out.1 (by omega)).mono ?_
     rintro e w5 ⟨b,E,n5,c5,E',n5',c5',rfl,ho5,hb5,hr5,hd5⟩
     have hce5:=hce.drawn hd5 hr5
     have bc5:=bc.dr hd5 (by omega)
     have bz5:=bz.dr hd5 (by omega)
     clear cG fG
     have cG:=bc5.cell
     have fG:=bc5.frozen
     have hf:Frm (fun k=>k=G) w5 (((w5.setCell ⟨G,1,none⟩ (.int .i64 b.al)).setCell ⟨G,2,none⟩ (.slice E n5 c5)).setCell ⟨G,3,none⟩ (.slice E' n5' c5')):=((Frm.setCell w5 G 1 _).trans (Frm.setCell _ G 2 _)).trans (Frm.setCell _ G 3 _)
     have hB:Blk (((w5.setCell ⟨G,1,none⟩ (.int .i64 b.al)).setCell ⟨G,2,none⟩ (.slice E n5 c5)).setCell ⟨G,3,none⟩ (.slice E' n5' c5')) G 45 #[.bool true,.int .i64 b.al,.slice E n5 c5,.slice E' n5' c5',.string vst]:=by
      simpa using ((bc5.set_ 1 (.int .i64 b.al)).set_ 2 (.slice E n5 c5)).set_ 3 (.slice E' n5' c5')
     have hfin:=(({ hce5 with own:=ho5.less (by omega),bd:=hide ⟨hb5.out,hce.bd.out.2⟩ }:CeAt w w5 R _ 13 4000 b E n5 c5 E' n5' c5' vst).far bc5 hf (by omega) (by decide)).more (N:=M+1000) (H:=16) (I:=4000) (by omega) (by omega) (by omega)
     have bz6:=bz5.frm hf (fun e=>hGZ e.symm)
     clear bc5 bz5 hf
     go_wp2_with fail
     go_meet
     exact⟨_,_,_,_,_,_,_,_,_,hB,bz6,hfin⟩
  ·have h3:((y:Int)==3)=false:=by simp;omega
   by_cases hy4:y=4
   ·subst hy4
    have hf:=Frm.setCell w3 G 0 (.bool (!vhd))
    have hB:Blk (w3.setCell ⟨G,0,none⟩ (.bool (!vhd))) G 45 #[.bool (!vhd),.int .i64 vau.al,.slice D q f,.slice D' q' f',.string vst]:=by
     simpa using bc.set_ 0 (.bool (!vhd))
    have hfin:=(hce.far bc hf (by omega) (by decide)).more (N:=M+1000) (H:=16) (I:=4000) (by omega) (by omega) (by omega)
    have bz6:=bz.frm hf (fun e=>hGZ e.symm)
    go_wp2_with fail
    go_meet
    exact⟨_,_,_,_,_,_,_,_,_,hB,bz6,hfin⟩
   ·have h4:((y:Int)==4)=false:=by simp;omega
    go_wp2_with fail
    go_meet
    exact⟨_,_,_,_,_,_,_,_,_,bc,bz,hce.more (by omega) (by omega) (by omega)⟩
 case rest =>
  clear hce bc bz
  obtain⟨hd,a,B,m,d,B',m',d',x,bc,bz,hce⟩:=hcut
  obtain⟨f1,f2⟩:=hce.fin (hd:=hd) bz rfl (by omega)
  have cG:=bc.cell
  have cZ:=bz.cell
  have fZ:=bz.frozen
  go_wp2_with fail
  have cf:=f2.out.cell
  exact bodyPost_ret (v:=.agg #[.bool hd,.int .i64 a.al,.slice B m d,.slice B' m' d',.string x]) (by simp [results,Tryz.results56,go_sem,cf]) rfl f1.out
set_option maxRecDepth 100000 in
theorem zhh {R M K J m d m' d':Nat} {a:Aut} {B B':Option Addr} {x:ByteArray} {hd:Bool} {w:World}(h:CeAt w w R M K J a B m d B' m' d' x)(hM:M≤600000000)(hK:K≤60)(hJ:J≤5000) :
  Calls Tryz.prog 55 #[.pointer (some ⟨R,0,none⟩),.agg #[.bool hd,.int .i64 a.al,.slice B m d,.slice B' m' d',.string x]] w (RetCe R (M+100) (K+39) (J+1) w):=by
 have hRl:=h.hR
 obtain⟨b1,bz⟩:=zV (Ext.refl ((w.alloc (.cells #[.bool hd,.int .i64 a.al,.slice B m d,.slice B' m' d',.string x] 45)).alloc (.cells #[.bool false,.int .i64 0,.slice none 0 0,.slice none 0 0,.string ⟨#[]⟩] 45)))
 have hx0:Ext w ((w.alloc (.cells #[.bool hd,.int .i64 a.al,.slice B m d,.slice B' m' d',.string x] 45)).alloc (.cells #[.bool false,.int .i64 0,.slice none 0 0,.slice none 0 0,.string ⟨#[]⟩] 45)):=((Ext.refl w).alloc _).alloc _
 go_enter Tryz.func55,Tryz.ntmps55
 go_upto_region 1 with fail
 generalize (w.alloc (.cells #[.bool hd,.int .i64 a.al,.slice B m d,.slice B' m' d',.string x] 45)).alloc (.cells #[.bool false,.int .i64 0,.slice none 0 0,.slice none 0 0,.string ⟨#[]⟩] 45)=w0 at *
 have hce0:=h.ext hx0
 go_wp2_with fail
 refine (zv hce0.rd (by omega)).mono ?_
 rintro e w2 ⟨y,rfl,-,-,hr2,hd2⟩
 have hce:=hce0.drawn hd2 hr2
 have hsz:=hx0.size
 have hsz2:=hce.dr.size
 replace b1:=b1.dr hd2 (by omega)
 replace bz:=bz.dr hd2 (by omega)
 clear hce0 hd2 hr2 hx0 h
 go_upto_block 0 with fail
 go_cut [] (fun wx=>∃ (a:Aut) (B:Option Addr) (m d:Nat) (B':Option Addr) (m' d':Nat) (x:ByteArray),Blk wx w.heap.size 45 #[.bool hd,.int .i64 a.al,.slice B m d,.slice B' m' d',.string x]∧Blk wx (w.heap.size+1) 45 #[.bool false,.int .i64 0,.slice none 0 0,.slice none 0 0,.string ⟨#[]⟩]∧CeAt w wx R (M+100) (K+39) (J+1) a B m d B' m' d' x)
 case first =>
  have cG:=b1.cell
  have hcases:y=0∨y=1∨y=2∨3≤y:=by omega
  rcases hcases with hy|hy|hy|hy
  ·subst hy
   have hy0:True:=trivial
   go_wp2_with fail
   refine (zbz hce.rd (by omega) hce.own hce.bd.out.1 (by omega)).mono ?_
   rintro e v1 ⟨a1,A1,n1,d1,B1,m1,e1,rfl,ho1,hb1,hr1,hd1⟩
   have hce1:=hce.drawn hd1 hr1
   have hq1:=hce.rd.lt
   have hq2:=hce1.rd.lt
   clear cG
   go_wp2_with fail
   refine (zbz hr1 (by omega) (ho1.less (by omega)) hb1.out (by omega)).mono ?_
   rintro e v2 ⟨a2,A2,n2,d2,B2,m2,e2,rfl,ho2,hb2,hr2,hd2⟩
   have hce2:=hce1.drawn hd2 hr2
   have hq3:=hce2.rd.lt
   go_wp2_with fail
   refine (zbz hr2 (by omega) (ho2.less (by omega)) hb2.out (by omega)).mono ?_
   rintro e v3 ⟨a3,A3,n3,d3,B3,m3,e3,rfl,ho3,hb3,hr3,hd3⟩
   have hce3:=hce2.drawn hd3 hr3
   have bc5:=((b1.dr hd1 (by omega)).dr hd2 (by omega)).dr hd3 (by omega)
   have bz5:=((bz.dr hd1 (by omega)).dr hd2 (by omega)).dr hd3 (by omega)
   have cG:=bc5.cell
   have fG:=bc5.frozen
   have hf:Frm (fun k=>k=w.heap.size) v3 (((v3.setCell ⟨w.heap.size,1,none⟩ (.int .i64 a3.al)).setCell ⟨w.heap.size,2,none⟩ (.slice A3 n3 d3)).setCell ⟨w.heap.size,3,none⟩ (.slice B3 m3 e3)):=((Frm.setCell v3 w.heap.size 1 _).trans (Frm.setCell _ w.heap.size 2 _)).trans (Frm.setCell _ w.heap.size 3 _)
   have hB:Blk (((v3.setCell ⟨w.heap.size,1,none⟩ (.int .i64 a3.al)).setCell ⟨w.heap.size,2,none⟩ (.slice A3 n3 d3)).setCell ⟨w.heap.size,3,none⟩ (.slice B3 m3 e3)) w.heap.size 45 #[.bool hd,.int .i64 a3.al,.slice A3 n3 d3,.slice B3 m3 e3,.string x]:=by
    simpa using ((bc5.set_ 1 (.int .i64 a3.al)).set_ 2 (.slice A3 n3 d3)).set_ 3 (.slice B3 m3 e3)
   have hfin:=(({ hce3 with own:=ho3.less (by omega),bd:=hide ⟨hb3.out,hce.bd.out.2⟩ }:CeAt w v3 R _ (K+13+13+13) J a3 A3 n3 d3 B3 m3 e3 x).far bc5 hf (by omega) (by decide)).more (N:=M+100) (H:=K+39) (I:=J+1) (by omega) (by omega) (by omega)
   have bz6:=bz5.frm hf (by omega)
   clear bc5 bz5 hf
   go_wp2_with fail
   go_meet
   exact⟨_,_,_,_,_,_,_,_,hB,bz6,hfin⟩
  ·subst hy
   have hy0:True:=trivial
   have hxs:=hce.bd.out.2
   have hKle:K≤K+39:=by omega
   generalize hK9:K+39=K9 at *
   have cG':∀ W,Dr R w2 W→∀ q,W.cell? ⟨w.heap.size,q,none⟩=#[Value.bool hd,.int .i64 a.al,.slice B m d,.slice B' m' d',.string x][q]?:=fun W hW=>(b1.dr hW (by omega)).cell
   clear cG
   go_wp2_with fail
   refine tR (fun X=>Dr R w2 X) [7] (Ord.of [0,1,2,3,4,5,6,7]) ?_
   refine tQ ?_
   (refine zx rfl rfl rfl (fun K hK=>?_);go_simp)
   refine hK.out _ _ ((Dr.refl R w2).drew.alloc _) ?_
   refine pT ?_
   (refine zx rfl rfl rfl (fun K hK=>?_);go_simp)
   have hxd:=(Ext.refl w2).drew
   have hown:=zbe w2.drew (us:=#[.string ⟨#[103]⟩,.string ⟨#[97]⟩,.string ⟨#[45]⟩]) (n:=3) rfl rfl (by omega)
   have hq1:=hce.rd.lt
   refine (l19Rd_of ((hce.rd.ext hxd).ext ((Ext.refl _).alloc _)) (by omega) (Reads.of_own hown) (by show R<w2.drew.heap.size;exact hq1) (by omega)).mono ?_
   rintro e w4 ⟨u,hu,rfl,hr4,hd4⟩
   have hd24:Dr R w2 w4:=((Dr.refl R w2).drew.alloc _).trans hd4
   have hus:u.size≤1:=by
    simp [zhN] at hu
    rcases hu with rfl|rfl|rfl<;>decide
   have hxu:¬ (9223372036854775807<x.size+u.size):=by omega
   refine hK.out _ _ hd24 ?_
   refine pT ?_
   refine tQ ?_
   have hce4:=hce.drawn hd24 hr4
   have bc5:=b1.dr hd24 (by omega)
   have bz5:=bz.dr hd24 (by omega)
   have fG:=bc5.frozen
   have hf:=Frm.setCell w4 w.heap.size 4 (.string (x++u))
   have hB:Blk (w4.setCell ⟨w.heap.size,4,none⟩ (.string (x++u))) w.heap.size 45 #[.bool hd,.int .i64 a.al,.slice B m d,.slice B' m' d',.string (x++u)]:=by
    simpa using bc5.set_ 4 (.string (x++u))
   have hfin:=(({ hce4 with bd:=hide ⟨hce.bd.out.1,by rw [ByteArray.size_append];omega⟩ }:CeAt w w4 R _ _ (J+1) a B m d B' m' d' (x++u)).far bc5 hf (by omega) (by decide)).more (N:=M+100) (H:=K9) (I:=J+1) (by omega) hKle (by omega)
   have bz6:=bz5.frm hf (by omega)
   (refine zM rfl rfl rfl rfl (fun K hK=>?_))
   go_simp
   refine hK.out _ _ ?_
   refine zaf ?_
   clear bc5 bz5 hf
   go_wp2_with fail
   go_meet
   exact⟨_,_,_,_,_,_,_,_,hB,bz6,hfin⟩
  ·subst hy
   have hy0:True:=trivial
   have fG:=b1.frozen
   have hf:Frm (fun k=>k=w.heap.size) w2 (((w2.setCell ⟨w.heap.size,1,none⟩ (.int .i64 1)).setCell ⟨w.heap.size,2,none⟩ (.slice none 0 0)).setCell ⟨w.heap.size,3,none⟩ (.slice none 0 0)):=((Frm.setCell w2 w.heap.size 1 _).trans (Frm.setCell _ w.heap.size 2 _)).trans (Frm.setCell _ w.heap.size 3 _)
   have hB:Blk (((w2.setCell ⟨w.heap.size,1,none⟩ (.int .i64 1)).setCell ⟨w.heap.size,2,none⟩ (.slice none 0 0)).setCell ⟨w.heap.size,3,none⟩ (.slice none 0 0)) w.heap.size 45 #[.bool hd,.int .i64 (⟨1,[],[]⟩:Aut).al,.slice none 0 0,.slice none 0 0,.string x]:=by
    simpa using ((b1.set_ 1 (.int .i64 1)).set_ 2 (.slice none 0 0)).set_ 3 (.slice none 0 0)
   have hfin:=(({ hce with own:=⟨⟨[],World.ownsRow_nil _ _ _ _,zL.nil _ _⟩,rfl,World.ownsRow_nil _ _ _ _,rfl⟩,bd:=hide ⟨⟨Nat.zero_le _,Nat.zero_le _,fun l hl=>by simp at hl⟩,hce.bd.out.2⟩ }:CeAt w w2 R _ K J ⟨1,[],[]⟩ none 0 0 none 0 0 x).far b1 hf (by omega) (by decide)).more (N:=M+100) (H:=K+39) (I:=J+1) (by omega) (by omega) (by omega)
   have bz6:=bz.frm hf (by omega)
   go_wp2_with fail
   go_meet
   exact⟨_,_,_,_,_,_,_,_,hB,bz6,hfin⟩
  ·have h0:((y:Int)==0)=false:=by simp;omega
   have h1:((y:Int)==1)=false:=by simp;omega
   have h2:((y:Int)==2)=false:=by simp;omega
   go_wp2_with fail
   go_meet
   exact⟨_,_,_,_,_,_,_,_,b1,bz,hce.more (by omega) (by omega) (by omega)⟩
 case rest =>
  clear hce b1 bz hsz2
  obtain⟨a,B,m,d,B',m',d',x,bc,bz,hce⟩:=hcut
  obtain⟨f1,f2⟩:=hce.fin (hd:=hd) bz rfl (by omega)
  have cG:=bc.cell
  have cZ:=bz.cell
  have fZ:=bz.frozen
  go_wp2_with fail
  have cf:=f2.out.cell
  exact bodyPost_ret (v:=.agg #[.bool hd,.int .i64 a.al,.slice B m d,.slice B' m' d',.string x]) (by simp [results,Tryz.results55,go_sem,cf]) rfl f1.out
set_option maxHeartbeats 4000000
theorem zX.at_new {w:World} {base lo:Nat} {A:Option Addr} {n c:Nat} {A':Option Addr} {n' c':Nat} {a:Aut}(h:zX w base A n c A' n' c' a)(hl:lo≤base):zI w lo w.heap.size A n A' n' a:=(h.less hl).reads
set_option maxHeartbeats 4000000
def RetDK (w:World) (e:Ending) (w':World):Prop:=
 ∃ (s:Sys) (A:Option Addr) (n c:Nat) (t:Sys) (C:Option Addr) (k c2:Nat) (p:Aut) (B:Option Addr) (m d:Nat) (B':Option Addr) (m' d':Nat) (hd:Bool) (a:Aut) (D:Option Addr) (q f:Nat) (D':Option Addr) (q' f':Nat) (x:ByteArray),
  e=.returned (.tuple #[.agg #[.int .i64 s.al,.int .i64 s.st,.slice A n c],.agg #[.int .i64 t.al,.int .i64 t.st,.slice C k c2],.agg #[.int .i64 p.al,.slice B m d,.slice B' m' d'],.agg #[.bool hd,.int .i64 a.al,.slice D q f,.slice D' q' f',.string x]]) ∧
  (zO w' w.heap.size w'.heap.size A n s∧zO w' w.heap.size w'.heap.size C k t∧zI w' w.heap.size w'.heap.size B m B' m' p∧zI w' w.heap.size w'.heap.size D q D' q' a) ∧
  Hid (((n≤100000∧n≤c)∧(k≤100000∧k≤c2))∧BdA 100 p∧BdA 100 a∧x.size≤5000)∧Ext w w'
theorem draw_ck {R M L K N H J n c k c2 m d m' d' q f q' f':Nat} {s t:Sys} {p a:Aut} {A B B' C D D':Option Addr} {x:ByteArray} {hd:Bool} {w w1 W W':World} {S:Nat→Prop}(hx:Ext w w1)(hR:w.heap.size≤R)(hT:zbq w1 W R M L K s A n c t C k c2 p B m d B' m' d')(hC:CeAt w1 W R N H J a D q f D' q' f' x)
  (hF:Frm S W W') (hS:∀ k,S k→w.heap.size≤k∧k<R) (hL:L≤100000) (hK:K≤100) (hH:H≤100) (hJ:J≤5000) :
  RetDK w (.returned (.tuple #[.agg #[.int .i64 s.al,.int .i64 s.st,.slice A n c],.agg #[.int .i64 t.al,.int .i64 t.st,.slice C k c2],.agg #[.int .i64 p.al,.slice B m d,.slice B' m' d'],.agg #[.bool hd,.int .i64 a.al,.slice D q f,.slice D' q' f',.string x]])) W':=by
 have hxW:Ext w W:=Dr.new hx hR hT.dr
 have i1:=hT.is.frm hF (fun k hk h1=>by have:=hS k hk;omega)
 have i2:=hT.it.frm hF (fun k hk h1=>by have:=hS k hk;omega)
 have i3:=hT.ip.keep hF (fun k h1 hk=>by have:=hS k hk;omega)
 have i4:=hC.own.keep hF (fun k h1 hk=>by have:=hS k hk;omega)
 have hn:=hT.ns
 exact⟨s,A,n,c,t,C,k,c2,p,B,m,d,B',m',d',hd,a,D,q,f,D',q',f',x,rfl,⟨i1.new hR,i2.new hR,i3.at_new (by omega),i4.at_new (by omega)⟩,hide ⟨by omega,BdL.more hT.bd.out hK,BdL.more hC.bd.out.1 hH,Nat.le_trans hC.bd.out.2 hJ⟩,hxW.frm hF (fun k hk hk2=>by have:=hS k hk2;omega)⟩
set_option maxRecDepth 100000 in
theorem zgI {A0:Option Addr} {n0 c0:Nat} {w:World}(h:Bytes w A0 n0)(hn:n0≤9223372036854775807)(hc:n0≤c0)(hc2:c0≤9223372036854775807) :
  Calls Tryz.prog 24 #[.slice A0 n0 c0] w (RetDK w):=by
 have hx0:Ext w ((((w.alloc (.cells #[.int .i64 0,.int .i64 0,.slice none 0 0] 39)).alloc (.cells #[.int .i64 0,.int .i64 0,.slice none 0 0] 39)).alloc (.cells #[.int .i64 0,.slice none 0 0,.slice none 0 0] 27)).alloc (.cells #[.bool false,.int .i64 0,.slice none 0 0,.slice none 0 0,.string ⟨#[]⟩] 45)):=((((Ext.refl _).alloc _).alloc _).alloc _).alloc _
 obtain⟨z1,z2,z3,z4⟩:=zeJ (Ext.refl ((((w.alloc (.cells #[.int .i64 0,.int .i64 0,.slice none 0 0] 39)).alloc (.cells #[.int .i64 0,.int .i64 0,.slice none 0 0] 39)).alloc (.cells #[.int .i64 0,.slice none 0 0,.slice none 0 0] 27)).alloc (.cells #[.bool false,.int .i64 0,.slice none 0 0,.slice none 0 0,.string ⟨#[]⟩] 45)))
 have hsz:((((w.alloc (.cells #[.int .i64 0,.int .i64 0,.slice none 0 0] 39)).alloc (.cells #[.int .i64 0,.int .i64 0,.slice none 0 0] 39)).alloc (.cells #[.int .i64 0,.slice none 0 0,.slice none 0 0] 27)).alloc (.cells #[.bool false,.int .i64 0,.slice none 0 0,.slice none 0 0,.string ⟨#[]⟩] 45)).heap.size=w.heap.size+4:=by simp
 have hh:=hide (h.ext hx0)
 clear h
 go_enter Tryz.func24,Tryz.ntmps24
 go_upto_region 1 with fail
 generalize (((w.alloc (.cells #[.int .i64 0,.int .i64 0,.slice none 0 0] 39)).alloc (.cells #[.int .i64 0,.int .i64 0,.slice none 0 0] 39)).alloc (.cells #[.int .i64 0,.slice none 0 0,.slice none 0 0] 27)).alloc (.cells #[.bool false,.int .i64 0,.slice none 0 0,.slice none 0 0,.string ⟨#[]⟩] 45)=w0 at *
 go_wp2_with fail
 refine (spec_l19Open hh.out hn hc hc2).mono ?_
 rintro e w1 ⟨R,rfl,hR,hr1,hx1⟩
 have hx01:=hx0.trans hx1
 have hRl:=hr1.lt
 replace z1:=z1.ext hx1
 replace z2:=z2.ext hx1
 replace z3:=z3.ext hx1
 replace z4:=z4.ext hx1
 go_upto_region 3 with (first
  |(go_at_call 54;refine (spec_l12Draw hr1 (by omega)).mono ?_;rintro e w2 ⟨s,A,n,c,t,C,k,c2,p,B,m,d,B',m',d',rfl,ht⟩))
 have hx2:Ext w2 (((w2.alloc (.cells #[.int .i64 s.al,.int .i64 s.st,.slice A n c] 39)).alloc (.cells #[.int .i64 t.al,.int .i64 t.st,.slice C k c2] 39)).alloc (.cells #[.int .i64 p.al,.slice B m d,.slice B' m' d'] 27)):=(((Ext.refl _).alloc _).alloc _).alloc _
 obtain⟨b1,b2,b3⟩:=zQ (Ext.refl (((w2.alloc (.cells #[.int .i64 s.al,.int .i64 s.st,.slice A n c] 39)).alloc (.cells #[.int .i64 t.al,.int .i64 t.st,.slice C k c2] 39)).alloc (.cells #[.int .i64 p.al,.slice B m d,.slice B' m' d'] 27)))
 have hw2:=ht.dr.size
 have zz:=hide (And.intro ((z1.dr ht.dr (by omega)).ext hx2) (And.intro ((z2.dr ht.dr (by omega)).ext hx2) (And.intro ((z3.dr ht.dr (by omega)).ext hx2) ((z4.dr ht.dr (by omega)).ext hx2))))
 have ht2:=ht.ext hx2
 have hsz2:(((w2.alloc (.cells #[.int .i64 s.al,.int .i64 s.st,.slice A n c] 39)).alloc (.cells #[.int .i64 t.al,.int .i64 t.st,.slice C k c2] 39)).alloc (.cells #[.int .i64 p.al,.slice B m d,.slice B' m' d'] 27)).heap.size=w2.heap.size+3:=by simp
 clear ht hx2 z1 z2 z3 z4
 generalize hG:w2.heap.size=G at *
 generalize ((w2.alloc (.cells #[.int .i64 s.al,.int .i64 s.st,.slice A n c] 39)).alloc (.cells #[.int .i64 t.al,.int .i64 t.st,.slice C k c2] 39)).alloc (.cells #[.int .i64 p.al,.slice B m d,.slice B' m' d'] 27)=w3 at *
 clear hG
 have cS:=b1.cell
 have cT:=b2.cell
 have cP:=b3.cell
 have HD:=hide (spec_l13Draw ht2.own (by omega) (by omega))
 have hn2:=ht2.ns
 go_upto_region 4 with (first
  |(go_at_call 56;refine HD.out.mono ?_;rintro e w4 ⟨hd4,a4,D4,q4,f4,D4',q4',f4',x4,rfl,hc4⟩;have hWr:=hide (zhh (hd:=hd4) ({ hc4 with dr:=Dr.refl _ _,hR:=hc4.rd.lt }:CeAt w4 w4 R _ 16 4000 a4 D4 q4 f4 D4' q4' f4' x4) (by omega) (by omega) (by omega)))
  |(go_at_call 55;refine hWr.out.mono ?_;rintro e w5 ⟨hd,a,D,q,f,D',q',f',x,rfl,hc5⟩))
 have hc4w:=hc4.dr
 have hc5w:=hc5.dr
 have hx6:=(Ext.refl w5).alloc (.cells #[.bool hd,.int .i64 a.al,.slice D q f,.slice D' q' f',.string x] 45)
 have bc:=Blk.new w5 45 #[.bool hd,.int .i64 a.al,.slice D q f,.slice D' q' f',.string x]
 have hdw:Dr R w3 (w5.alloc (.cells #[.bool hd,.int .i64 a.al,.slice D q f,.slice D' q' f',.string x] 45)):=(hc4w.trans hc5w).ext hx6
 have hce:=((hc5.less hc4w hc4.hR).ext hx6).less ht2.dr hRl
 have ht6:=ht2.drawn hdw hce.rd
 have hs45:=(hc4w.trans hc5w).size
 replace b1:=b1.dr hdw (by omega)
 replace b2:=b2.dr hdw (by omega)
 replace b3:=b3.dr hdw (by omega)
 obtain⟨z1,z2,z3,z4⟩:=zz.out
 replace zz:=hide (And.intro (z1.dr hdw (by omega)) (And.intro (z2.dr hdw (by omega)) (And.intro (z3.dr hdw (by omega)) (z4.dr hdw (by omega)))))
 clear hc4 hc5 hc4w hc5w hx6 hdw ht2 z1 z2 z3 z4 HD hWr cS cT cP hx0 hx1
 have hGc:=hide (show G+3≤w5.heap.size∧R<G by omega)
 generalize hGe:w5.heap.size=Gc at *
 generalize w5.alloc (.cells #[.bool hd,.int .i64 a.al,.slice D q f,.slice D' q' f',.string x] 45)=w6 at *
 clear hGe hs45 hsz2
 have cS:=b1.cell
 have cT:=b2.cell
 have cP:=b3.cell
 have HS:=hide (spec_l9Spoil ht6.own (by omega) (by omega) (by omega))
 go_wp2_with fail
 refine HS.out.mono ?_
 rintro e w7 ⟨s7,A7,n7,c7,t7,C7,k7,d7,p7,B7,m7,e7,B7',m7',e7',rfl,ht7⟩
 have hR6:=ht6.rd.lt
 have hdw:=ht7.dr
 replace hce:=hce.drawn hdw ht7.rd
 have ht8:=ht7.less ht6.dr hRl
 replace b1:=b1.dr hdw (by have:=hGc.out;omega)
 replace b2:=b2.dr hdw (by have:=hGc.out;omega)
 replace b3:=b3.dr hdw (by have:=hGc.out;omega)
 replace bc:=bc.dr hdw (by have:=hGc.out;omega)
 obtain⟨z1,z2,z3,z4⟩:=zz.out
 replace zz:=hide (And.intro (z1.dr hdw (by omega)) (And.intro (z2.dr hdw (by omega)) (And.intro (z3.dr hdw (by omega)) (z4.dr hdw (by omega)))))
 clear ht6 ht7 hdw z1 z2 z3 z4 HS cS cT cP
 have cS:=b1.cell
 have fS:=b1.frozen
 have cT:=b2.cell
 have fT:=b2.frozen
 have cP:=b3.cell
 have fP:=b3.frozen
 go_upto_region 5 with fail
 have e1:=zae w7 G (.int .i64 s7.al) (.int .i64 s7.st) (.slice A7 n7 c7)
 have q1:=zas b1 rfl (.int .i64 s7.al) (.int .i64 s7.st) (.slice A7 n7 c7)
 replace ht8:=ht8.far b1 e1 (by omega) (by decide) (by decide)
 replace hce:=hce.far b1 e1 (by omega) (by decide)
 replace b2:=b2.frm e1 (by omega)
 replace b3:=b3.frm e1 (by omega)
 replace bc:=bc.frm e1 (by have:=hGc.out;omega)
 obtain⟨z1,z2,z3,z4⟩:=zz.out
 replace z1:=z1.frm e1 (by omega)
 replace z2:=z2.frm e1 (by omega)
 replace z3:=z3.frm e1 (by omega)
 replace z4:=z4.frm e1 (by omega)
 clear zz e1 b1 cS fS cT fT cP fP
 generalize ((w7.setCell ⟨G,0,none⟩ (.int .i64 s7.al)).setCell ⟨G,1,none⟩ (.int .i64 s7.st)).setCell ⟨G,2,none⟩ (.slice A7 n7 c7)=w8 at *
 have e1:=zae w8 (G+1+1) (.int .i64 p7.al) (.slice B7 m7 e7) (.slice B7' m7' e7')
 have q3:=zas b3 rfl (.int .i64 p7.al) (.slice B7 m7 e7) (.slice B7' m7' e7')
 replace ht8:=ht8.far b3 e1 (by omega) (by decide) (by decide)
 replace hce:=hce.far b3 e1 (by omega) (by decide)
 replace b2:=b2.frm e1 (by omega)
 replace q1:=q1.frm e1 (by omega)
 replace bc:=bc.frm e1 (by have:=hGc.out;omega)
 replace z1:=z1.frm e1 (by omega)
 replace z2:=z2.frm e1 (by omega)
 replace z3:=z3.frm e1 (by omega)
 replace z4:=z4.frm e1 (by omega)
 clear e1 b3
 generalize ((w8.setCell ⟨G+1+1,0,none⟩ (.int .i64 p7.al)).setCell ⟨G+1+1,1,none⟩ (.slice B7 m7 e7)).setCell ⟨G+1+1,2,none⟩ (.slice B7' m7' e7')=w9 at *
 have e1:=zae w9 (G+1) (.int .i64 t7.al) (.int .i64 t7.st) (.slice C7 k7 d7)
 have q2:=zas b2 rfl (.int .i64 t7.al) (.int .i64 t7.st) (.slice C7 k7 d7)
 replace ht8:=ht8.far b2 e1 (by omega) (by decide) (by decide)
 replace hce:=hce.far b2 e1 (by omega) (by decide)
 replace q1:=q1.frm e1 (by omega)
 replace q3:=q3.frm e1 (by omega)
 replace bc:=bc.frm e1 (by have:=hGc.out;omega)
 replace z1:=z1.frm e1 (by omega)
 replace z2:=z2.frm e1 (by omega)
 replace z3:=z3.frm e1 (by omega)
 replace z4:=z4.frm e1 (by omega)
 clear e1 b2
 generalize ((w9.setCell ⟨G+1,0,none⟩ (.int .i64 t7.al)).setCell ⟨G+1,1,none⟩ (.int .i64 t7.st)).setCell ⟨G+1,2,none⟩ (.slice C7 k7 d7)=wE at *
 have cS:∀ W,Frm (fun k=>k=w.heap.size∨k=w.heap.size+1∨k=w.heap.size+1+1) wE W→∀ q,W.cell? ⟨G,q,none⟩=#[Value.int .i64 s7.al,.int .i64 s7.st,.slice A7 n7 c7][q]?:=fun W hW=>(q1.frm hW (by have:=hGc.out;omega)).cell
 have cT:∀ W,Frm (fun k=>k=w.heap.size∨k=w.heap.size+1∨k=w.heap.size+1+1) wE W→∀ q,W.cell? ⟨G+1,q,none⟩=#[Value.int .i64 t7.al,.int .i64 t7.st,.slice C7 k7 d7][q]?:=fun W hW=>(q2.frm hW (by have:=hGc.out;omega)).cell
 have cP:∀ W,Frm (fun k=>k=w.heap.size∨k=w.heap.size+1∨k=w.heap.size+1+1) wE W→∀ q,W.cell? ⟨G+1+1,q,none⟩=#[Value.int .i64 p7.al,.slice B7 m7 e7,.slice B7' m7' e7'][q]?:=fun W hW=>(q3.frm hW (by have:=hGc.out;omega)).cell
 have cC:∀ W,Frm (fun k=>k=w.heap.size∨k=w.heap.size+1∨k=w.heap.size+1+1) wE W→∀ j,W.cell? ⟨Gc,j,none⟩=#[Value.bool hd,.int .i64 a.al,.slice D q f,.slice D' q' f',.string x][j]?:=fun W hW=>(bc.frm hW (by have:=hGc.out;omega)).cell
 have hS0:Frm (fun k=>k=w.heap.size∨k=w.heap.size+1∨k=w.heap.size+1+1) wE wE.drew:=(Ext.refl wE).drew.toFrm
 have hxE:=(Ext.refl wE).drew
 have hF0:Frm (fun k=>k=w.heap.size∨k=w.heap.size+1∨k=w.heap.size+1+1∨k=w.heap.size+1+1+1) wE wE:=Frm.refl _ _
 clear q1 q2 q3 bc
 go_wp2_with fail
 refine tR (fun X=>Frm (fun k=>k=w.heap.size∨k=w.heap.size+1∨k=w.heap.size+1+1) wE X) [7] (Ord.of [0,1,2,3,4,5,6,7]) ?_
 refine tQ ?_
 have hFd:Frm (fun k=>k=w.heap.size∨k=w.heap.size+1∨k=w.heap.size+1+1∨k=w.heap.size+1+1+1) wE wE.drew:=hxE.toFrm
 replace z1:=z1.ext hxE
 replace z2:=z2.ext hxE
 replace z3:=z3.ext hxE
 replace z4:=z4.ext hxE
 clear hF0
 generalize hwD:wE.drew=wD at *
 clear hwD hxE
 have k1:=z1.cell
 have g1:=z1.frozen
 (refine zx rfl rfl rfl (fun K hK=>?_);go_simp)
 have r1:=zas z1 rfl (.int .i64 s7.al) (.int .i64 s7.st) (.slice A7 n7 c7)
 have e1:=zae wD w.heap.size (.int .i64 s7.al) (.int .i64 s7.st) (.slice A7 n7 c7)
 replace z2:=z2.frm e1 (by omega)
 replace z3:=z3.frm e1 (by omega)
 replace z4:=z4.frm e1 (by omega)
 have hS1:=hS0.trans (e1.mono (T:=fun k=>k=w.heap.size∨k=w.heap.size+1∨k=w.heap.size+1+1) (fun k _ hk=>.inl hk))
 replace hFd:=hFd.trans (e1.mono (T:=fun k=>k=w.heap.size∨k=w.heap.size+1∨k=w.heap.size+1+1∨k=w.heap.size+1+1+1) (fun k _ hk=>.inl hk))
 refine hK.out _ _ hS1 ?_
 refine pT ?_
 clear k1 g1 z1 e1 hS0
 generalize ((wD.setCell ⟨w.heap.size,0,none⟩ (.int .i64 s7.al)).setCell ⟨w.heap.size,1,none⟩ (.int .i64 s7.st)).setCell ⟨w.heap.size,2,none⟩ (.slice A7 n7 c7)=wA at *
 have k1:=z2.cell
 have g1:=z2.frozen
 (refine zx rfl rfl rfl (fun K hK=>?_);go_simp)
 have r2:=zas z2 rfl (.int .i64 t7.al) (.int .i64 t7.st) (.slice C7 k7 d7)
 have e1:=zae wA (w.heap.size+1) (.int .i64 t7.al) (.int .i64 t7.st) (.slice C7 k7 d7)
 replace r1:=r1.frm e1 (by omega)
 replace z3:=z3.frm e1 (by omega)
 replace z4:=z4.frm e1 (by omega)
 have hS2:=hS1.trans (e1.mono (T:=fun k=>k=w.heap.size∨k=w.heap.size+1∨k=w.heap.size+1+1) (fun k _ hk=>.inr (.inl hk)))
 replace hFd:=hFd.trans (e1.mono (T:=fun k=>k=w.heap.size∨k=w.heap.size+1∨k=w.heap.size+1+1∨k=w.heap.size+1+1+1) (fun k _ hk=>.inr (.inl hk)))
 refine hK.out _ _ hS2 ?_
 refine pT ?_
 clear k1 g1 z2 e1 hS1
 generalize ((wA.setCell ⟨w.heap.size+1,0,none⟩ (.int .i64 t7.al)).setCell ⟨w.heap.size+1,1,none⟩ (.int .i64 t7.st)).setCell ⟨w.heap.size+1,2,none⟩ (.slice C7 k7 d7)=wB at *
 have k1:=z3.cell
 have g1:=z3.frozen
 (refine zx rfl rfl rfl (fun K hK=>?_);go_simp)
 have r3:=zas z3 rfl (.int .i64 p7.al) (.slice B7 m7 e7) (.slice B7' m7' e7')
 have e1:=zae wB (w.heap.size+1+1) (.int .i64 p7.al) (.slice B7 m7 e7) (.slice B7' m7' e7')
 replace r1:=r1.frm e1 (by omega)
 replace r2:=r2.frm e1 (by omega)
 replace z4:=z4.frm e1 (by omega)
 have hS3:=hS2.trans (e1.mono (T:=fun k=>k=w.heap.size∨k=w.heap.size+1∨k=w.heap.size+1+1) (fun k _ hk=>.inr (.inr hk)))
 replace hFd:=hFd.trans (e1.mono (T:=fun k=>k=w.heap.size∨k=w.heap.size+1∨k=w.heap.size+1+1∨k=w.heap.size+1+1+1) (fun k _ hk=>.inr (.inr (.inl hk))))
 refine hK.out _ _ hS3 ?_
 refine pT ?_
 clear k1 g1 z3 e1 hS2
 generalize ((wB.setCell ⟨w.heap.size+1+1,0,none⟩ (.int .i64 p7.al)).setCell ⟨w.heap.size+1+1,1,none⟩ (.slice B7 m7 e7)).setCell ⟨w.heap.size+1+1,2,none⟩ (.slice B7' m7' e7')=wC at *
 have k1:=z4.cell
 have g1:=z4.frozen
 (refine zM rfl rfl rfl rfl (fun K hK=>?_))
 go_simp
 have r4:=zaw z4 rfl (.bool hd) (.int .i64 a.al) (.slice D q f) (.slice D' q' f') (.string x)
 have e1:=zat wC (w.heap.size+1+1+1) (.bool hd) (.int .i64 a.al) (.slice D q f) (.slice D' q' f') (.string x)
 replace r1:=r1.frm e1 (by omega)
 replace r2:=r2.frm e1 (by omega)
 replace r3:=r3.frm e1 (by omega)
 replace hFd:=hFd.trans (e1.mono (T:=fun k=>k=w.heap.size∨k=w.heap.size+1∨k=w.heap.size+1+1∨k=w.heap.size+1+1+1) (fun k _ hk=>.inr (.inr (.inr hk))))
 refine hK.out _ _ ?_
 refine zaf ?_
 have hfin:=hide (draw_ck (hd:=hd) hx01 (by omega) ht8 hce hFd (fun k hk=>by omega) (by omega) (by omega) (by omega) (by omega))
 clear k1 g1 z4 e1 hS3 hFd cS cT cP cC
 generalize (((((wC.setCell ⟨w.heap.size+1+1+1,0,none⟩ (.bool hd)).setCell ⟨w.heap.size+1+1+1,1,none⟩ (.int .i64 a.al)).setCell ⟨w.heap.size+1+1+1,2,none⟩ (.slice D q f)).setCell ⟨w.heap.size+1+1+1,3,none⟩ (.slice D' q' f')).setCell ⟨w.heap.size+1+1+1,4,none⟩ (.string x))=wF at *
 go_wp2_with fail
 have c1:=r1.cell
 have cc2:=r2.cell
 have c3:=r3.cell
 have c4:=r4.cell
 exact bodyPost_ret (v:=.tuple #[.agg #[.int .i64 s7.al,.int .i64 s7.st,.slice A7 n7 c7],.agg #[.int .i64 t7.al,.int .i64 t7.st,.slice C7 k7 d7],.agg #[.int .i64 p7.al,.slice B7 m7 e7,.slice B7' m7' e7'],.agg #[.bool hd,.int .i64 a.al,.slice D q f,.slice D' q' f',.string x]]) (by simp [results,Tryz.results24,go_sem,c1,cc2,c3,c4]) rfl hfin.out
theorem check_fails {s t:Sys} {p a:Aut} {x:ByteArray}(hc:zG false a x=true) :
  (zaR s t p false a x=0↔topB [s,t] x=true∧zce p x=true)∧zaR s t p false a x≠3∧zaR s t p false a x≠4∧zaR s t p false a x≠5:=by
 unfold zaR zcx
 by_cases h1:iface s p t<0
 ·rw [if_pos h1]
  refine⟨⟨fun h=>by omega,fun ⟨h2,h3⟩=>?_⟩,by omega,by omega,by omega⟩
  rw [zcL] at h1
  have h4:zk s=true∧zk t=true:=by
   unfold topB at h2
   simp only [Bool.and_eq_true] at h2
   have:=h2.1
   simp only [zw,Bool.and_eq_true,List.all_cons,List.all_nil] at this
   simp at this
   exact this
  have h5:zf p=true:=by
   unfold zce at h3
   simp only [Bool.and_eq_true] at h3
   exact h3.1
  rw [h4.1,h4.2,h5] at h1
  cases h1
 ·rw [if_neg h1,hc,if_neg (by decide),if_pos rfl]
  cases h2:topB [s,t] x<;>cases h3:zce p x<;>simp
theorem check_holds_ne {s t:Sys} {p a:Aut} {x:ByteArray}(hc:zG true a x=true):zaR s t p true a x≠6∧zaR s t p true a x≠7∧zaR s t p true a x≠2:=by
 unfold zaR
 rw [hc]
 simp only [Bool.true_eq_false,if_false]
 (repeat' split)<;>omega
theorem check_order (s t:Sys) (p a:Aut)(hd:Bool) (x:ByteArray):(zaR s t p hd a x=1↔iface s p t<0)∧(zaR s t p hd a x=2↔¬ iface s p t<0∧zG hd a x=false):=by
 unfold zaR zcx
 by_cases h1:iface s p t<0
 ·simp [h1]
 ·simp only [h1,if_false,not_false_iff,true_and]
  cases h2:zG hd a x
  ·simp
  ·simp only [Bool.true_eq_false,if_false,iff_false]
   refine⟨?_,?_⟩<;>((repeat' split)<;>omega)
end Go.Proofs.YtndhahednhnnbaaGreatDoor
namespace Go.Proofs.YtndhahednhnnbaaGreatDoor
open Go Go.ChangeShapes Go.WideShapes Go.ChangeAt Go.RowKit Go.Deep
def BytesAt (w:World) (A:Option Addr) (n c:Nat):Prop:=Bytes w A n∧n≤9223372036854775807∧n≤c∧c≤9223372036854775807
set_option maxRecDepth 100000 in
theorem arg_bytes {H:Type} {enc:TypeId × Value→H} {w:World} {spare:Nat→Bool} {held:Bool} {r:Reach} {b0:Nat} {v:Value} {d:DataW H} {p:List MemPlace}(hv:Value.okWide Tryz.prog w r b0 22 v)(h:DataW.Trod enc Tryz.prog w 0 spare held 22 v d p) :
  ∃ (A:Option Addr) (n c:Nat),v=.slice A n c∧BytesAt w A n c:=by
 obtain⟨a,l,k,rfl⟩:=okWide_slice Tryz.underlying22 hv
 obtain⟨fuel,hf⟩:=h
 rcases open_slice1 Tryz.underlying22 (by kernel_rfl) hf with ⟨h0,_⟩|⟨ad,len,cap,m,n,V,D,Pl,h0,hb,hl,hm,hmm,_,hx⟩
 ·simp [Value.cells] at h0
  obtain⟨rfl,rfl,rfl⟩:=h0
  exact⟨_,_,_,rfl,fun h=>absurd h (by omega),by omega,Nat.le_refl _,by omega⟩
 ·simp [Value.cells] at h0
  obtain⟨rfl,rfl,rfl⟩:=h0
  unfold maxLen at hm
  have hlm:l≤m:=by rw [hmm];split<;>omega
  refine⟨_,_,_,rfl,fun hn=>?_,by omega,hl,by omega⟩
  have h1:=(hx 0 (by omega)).1
  have hs:=zcS h1
  have hlt:=World.block_lt_of_cell? w _ h1
  rw [zdF] at hlt
  refine⟨ad.block,ad.off,by rw [← hs],hlt,fun j hj=>?_⟩
  obtain⟨h2,h3⟩:=hx j (by omega)
  obtain⟨b,hb1,_,hb3⟩:=DataW.trod_int Tryz.underlying5 h3
  have hV:V j=.int .u8 b:=by simpa using hb1
  rw [hV,hs,zT] at h2
  have hw:0≤b∧b<256:=by
   simp only [Lit.wf,Bool.and_eq_true,decide_eq_true_eq] at hb3
   have h4:IntKind.u8.min=0:=rfl
   have h5:IntKind.u8.max=255:=rfl
   omega
  refine⟨b.toNat,by omega,?_⟩
  rw [h2]
  have:((b.toNat:Nat):Int)=b:=by omega
  rw [this]
end Go.Proofs.YtndhahednhnnbaaGreatDoor
namespace Go.Proofs.YtndhahednhnnbaaGreatDoor
open Go Go.RowKit
set_option maxHeartbeats 2000000
def tailS (s:Sys):Sys:=⟨s.al,s.st,s.edges.drop 1⟩
theorem valid_tail {s:Sys}(h:zk s=true):zk (tailS s)=true:=by
 obtain⟨al,st,es⟩:=s
 cases es with
 |nil=>exact h
 |cons e r =>
  simp only [zk,tailS,Bool.and_eq_true,decide_eq_true_eq,List.all_eq_true,List.mem_range,List.drop_succ_cons,List.drop_zero,List.length_cons] at h ⊢
  refine⟨h.1,h.2.1,fun k hk=>?_⟩
  have h1:=h.2.2 (k+1) (by omega)
  unfold zbo at h1 ⊢
  simp only [List.getElem?_cons_succ] at h1
  cases hx:r[k]? with
  |none=>rw [hx] at h1;exact h1
  |some x =>
   rw [hx] at h1
   simp only [Bool.and_eq_true] at h1 ⊢
   refine⟨h1.1,?_⟩
   cases k with
   |zero=>simp
   |succ k =>
    have h2:=h1.2
    simp only [Nat.add_sub_cancel,List.getElem?_cons_succ] at h2 ⊢
    simpa using h2
theorem zO.tail {w:World} {lo hi n:Nat} {ad:Addr} {s:Sys}(h:zO w lo hi (some ad) (n+1) s):Reads w lo hi 3 (some (ad.add 3)) n (zo (s.edges.drop 1)):=by
 obtain⟨hn,hr⟩:=h
 obtain⟨ad',e,hl,hh,hc⟩:=hr.at_ (k:=0) (by omega)
 obtain rfl:ad=ad':=by injection e
 have hl1:=hr.length
 rw [zaC] at hl1
 refine⟨by rw [zaC,List.length_drop];omega,by have:=hr.len;omega,fun _=>⟨_,rfl,by rw [zdF];exact hl,by rw [zdF];exact hh,fun j u hu=>?_⟩⟩
 rw [addr_add]
 refine hc _ _ ?_
 cases hes:s.edges with
 |nil=>rw [hes] at hn;simp at hn
 |cons x r =>
  rw [hes] at hu
  simp only [List.drop_succ_cons,List.drop_zero] at hu
  rw [show 3+j=j+1+1+1 by omega]
  simp only [zo,List.getElem?_cons_succ]
  exact hu
theorem own_off {W:World} {base n c G:Nat} {A:Option Addr} {es:List Edg} {cs:Array Value}(hown:W.ownsRow base 126 3 (.slice A n c) n (zo es))(hB:Blk W G 39 cs):∀ b,(Value.slice A n c).ownBlock=some b→b≠G:=by
 rintro b hv rfl
 rcases hown.2 with ⟨h0,_⟩|⟨g,cap,cur,h0,_,hh,_⟩
 ·rw [h0] at hv;simp [Value.ownBlock] at hv
 ·rw [h0] at hv
  have hg:g=b:=by simpa [Value.ownBlock] using hv
  subst hg
  unfold Blk at hB
  rw [hh] at hB
  injection hB with hB
  injection hB with _ ht
  exact absurd ht (by decide)
def NewSys (w W:World) (G:Nat) (s:Sys):Prop:=∃ (A:Option Addr) (n c:Nat),Ext w W∧Blk W G 39 #[.int .i64 s.al,.int .i64 s.st,.slice A n c]∧zO W w.heap.size W.heap.size A n s
theorem new_alloc {w W:World} {n c:Nat} {A:Option Addr} {s:Sys}(hx:Ext w W)(hn:n=s.edges.length)(hown:W.ownsRow w.heap.size 126 3 (.slice A n c) n (zo s.edges)):NewSys w (W.alloc (.cells #[.int .i64 s.al,.int .i64 s.st,.slice A n c] 39)) W.heap.size s:=
 ⟨A,n,c,hx.alloc _,Blk.new _ _ _,hn,Reads.of_own (zg hown ((Ext.refl _).alloc _))⟩
theorem new_fill {w W:World} {n c G:Nat} {A:Option Addr} {s:Sys}(hx:Ext w W)(hn:n=s.edges.length)(hown:W.ownsRow w.heap.size 126 3 (.slice A n c) n (zo s.edges))(hB:Blk W G 39 #[.int .i64 0,.int .i64 0,.slice none 0 0])(hG:w.heap.size≤G) :
  NewSys w (((W.setCell ⟨G,0,none⟩ (.int .i64 s.al)).setCell ⟨G,1,none⟩ (.int .i64 s.st)).setCell ⟨G,2,none⟩ (.slice A n c)) G s:=by
 have hf:=zcX W G (.int .i64 s.al) (.int .i64 s.st) (.slice A n c)
 exact⟨A,n,c,((hx.setCell (p:=⟨G,0,none⟩) hG _).setCell (p:=⟨G,1,none⟩) hG _).setCell (p:=⟨G,2,none⟩) hG _,blk_fill hB rfl _ _ _,hn,Reads.of_own (ze hown hf (fun b hv hS=>own_off hown hB b hv hS))⟩
end Go.Proofs.YtndhahednhnnbaaGreatDoor
