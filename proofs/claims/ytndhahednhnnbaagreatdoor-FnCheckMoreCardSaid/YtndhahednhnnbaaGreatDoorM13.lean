/- spec.l13Draw and spec.l13Wrong, by their shape. | spec.DrawChainLetters, by its shape. | spec.DrawCheckCertificate, by its shape. | What the laws on certificates lean on. | Plain: what TracesWithin answers, by runs; accepted traces stay accepted for systems with more traces. No program in sight. | The reference's l5Find, FirstTraceOutside and TracesWithin, walked. | The program's CheckCertificate at a certificate that claims a failure, walked; printed by gen_chk.py. | Bytes, as a row's argument. -/
import Derived.Test.YtndhahednhnnbaaGreatDoorM04
import Derived.Test.YtndhahednhnnbaaGreatDoorM08
import Derived.Test.YtndhahednhnnbaaGreatDoorM12
import Derived.Test.YtndhahednhnnbaaGreatDoorM03
import Derived.Test.YtndhahednhnnbaaGreatDoorM05
import Derived.Test.YtndhahednhnnbaaGreatDoorM06
import Derived.Test.YtndhahednhnnbaaGreatDoorM07
import Derived.Test.YtndhahednhnnbaaGreatDoorM11
import Derived.Test.YtndhahednhnnbaaGreatDoorM01
namespace Go.Proofs.YtndhahednhnnbaaGreatDoor
open Go Go.RowKit
set_option maxHeartbeats 4000000
structure CeAt (w0 W:World) (R M K J:Nat) (a:Aut) (B:Option Addr) (m d:Nat) (B':Option Addr) (m' d':Nat) (x:ByteArray):Prop where
 own:zT W (R+1) B m d B' m' d' a
 bd:Hid (BdA K a∧x.size≤J)
 rd:Rd W R M
 dr:Dr R w0 W
 hR:R<w0.heap.size
def RetCe (R M K J:Nat) (w:World) (e:Ending) (w':World):Prop:=
 ∃ (hd:Bool) (a:Aut) (B:Option Addr) (m d:Nat) (B':Option Addr) (m' d':Nat) (x:ByteArray),e=.returned (.agg #[.bool hd,.int .i64 a.al,.slice B m d,.slice B' m' d',.string x])∧CeAt w w' R M K J a B m d B' m' d' x
section
variable {w0 W W':World} {R M K J N H I Z m d m' d':Nat} {a:Aut} {B B':Option Addr} {x:ByteArray} {hd:Bool}
theorem CeAt.drawn (h:CeAt w0 W R M K J a B m d B' m' d' x)(hd:Dr R W W')(hr:Rd W' R N):CeAt w0 W' R N K J a B m d B' m' d' x:=
 ⟨h.own.keep hd (fun b h1 e=>by omega),h.bd,hr,h.dr.trans hd,h.hR⟩
theorem CeAt.ext (h:CeAt w0 W R M K J a B m d B' m' d' x)(hx:Ext W W'):CeAt w0 W' R M K J a B m d B' m' d' x:=h.drawn hx.dr (h.rd.ext hx)
theorem CeAt.more (h:CeAt w0 W R M K J a B m d B' m' d' x)(hM:M≤N)(hK:K≤H)(hJ:J≤I):CeAt w0 W R N H I a B m d B' m' d' x:=
 ⟨h.own,hide ⟨BdL.more h.bd.out.1 hK,Nat.le_trans h.bd.out.2 hJ⟩,h.rd.more hM,h.dr,h.hR⟩
theorem CeAt.far {ty:TypeId} {cs:Array Value}(h:CeAt w0 W R M K J a B m d B' m' d' x)(hB:Blk W Z ty cs)(hf:Frm (fun k=>k=Z) W W')(hZ:w0.heap.size≤Z)(h2:ty≠3∧ty≠71∧ty≠4):CeAt w0 W' R M K J a B m d B' m' d' x:=
 ⟨h.own.farT hB hf h2,h.bd,h.rd.frm hf (fun k hk e=>by have:=h.hR;omega),h.dr.far hf hZ,h.hR⟩
theorem CeAt.less {w1:World}(h:CeAt w0 W R M K J a B m d B' m' d' x)(hd:Dr R w1 w0)(hR:R<w1.heap.size):CeAt w1 W R M K J a B m d B' m' d' x:=
 ⟨h.own,h.bd,h.rd,hd.trans h.dr,hR⟩
theorem CeAt.fin {us:Array Value}(h:CeAt w0 W R M K J a B m d B' m' d' x)(hz:Blk W Z 45 us)(h5:us.size=5)(hZ:w0.heap.size≤Z) :
  Hid (RetCe R M K J w0 (.returned (.agg #[.bool hd,.int .i64 a.al,.slice B m d,.slice B' m' d',.string x])) (((((W.setCell ⟨Z,0,none⟩ (.bool hd)).setCell ⟨Z,1,none⟩ (.int .i64 a.al)).setCell ⟨Z,2,none⟩ (.slice B m d)).setCell ⟨Z,3,none⟩ (.slice B' m' d')).setCell ⟨Z,4,none⟩ (.string x))) ∧
  Hid (Blk (((((W.setCell ⟨Z,0,none⟩ (.bool hd)).setCell ⟨Z,1,none⟩ (.int .i64 a.al)).setCell ⟨Z,2,none⟩ (.slice B m d)).setCell ⟨Z,3,none⟩ (.slice B' m' d')).setCell ⟨Z,4,none⟩ (.string x)) Z 45 #[.bool hd,.int .i64 a.al,.slice B m d,.slice B' m' d',.string x]):=by
 have hf:=zar W Z (.bool hd) (.int .i64 a.al) (.slice B m d) (.slice B' m' d') (.string x)
 exact⟨hide ⟨hd,a,B,m,d,B',m',d',x,rfl,h.far hz hf hZ (by decide)⟩,hide (zaq hz h5 _ _ _ _ _)⟩
end
theorem bd_valid {a:Aut}(h:zk a=true∨a=noA):BdA 12 a:=by
 rcases h with h|rfl
 ·obtain⟨h0,⟨h1,h2⟩,h3,h4⟩:=zv h
  refine⟨h2,by omega,fun l hl=>?_⟩
  obtain⟨q,hq⟩:=List.getElem?_of_mem hl
  rw [(h4 q l hq).1]
  exact Nat.le_trans (zx _ _) (by omega)
 ·exact⟨Nat.zero_le _,Nat.zero_le _,fun l hl=>by simp [noA] at hl⟩
theorem bd_autX (s t:Sys) (p:Aut):BdA 12 (autX (vpT s t p).code (vpT s t p).asm (vpT s t p).tr)∧(strX (vpT s t p).code (vpT s t p).asm (vpT s t p).tr).size≤4000:=by
 refine⟨?_,?_⟩
 ·unfold autX
  split
  ·exact bd_valid (vpT_asm s t p)
  ·exact bd_valid (.inr rfl)
 ·unfold strX
  split
  ·exact (zho s t p).2
  ·exact Nat.zero_le _
theorem iface_and (s t:Sys) (p:Aut):∃ a:Nat,a<64∧bits .and .i64 (iface s p t) 63=(a:Int):=by
 rcases zcO s t p with h|⟨L,h⟩
 ·rw [h];exact⟨63,by omega,by decide⟩
 ·rw [h]
  exact⟨L&&&63,by have:=Nat.and_le_right (n:=L) (m:=63);omega,zcr (by have:=zgN h;unfold Sm;omega) (by unfold Sm;decide)⟩
theorem sl_pairR {w:World} {R g n c k c2:Nat} {A C:Option Addr} {s t:Sys}(hb:Blk w g 39 #[.int .i64 s.al,.int .i64 s.st,.slice A n c,.int .i64 t.al,.int .i64 t.st,.slice C k c2])(hg:R<g)(h:zau w R A n s)(h':zau w R C k t):SLAt w (R+1) w.heap.size (some ⟨g,0,none⟩) 2 [s,t]:=by
 refine⟨rfl,[.int .i64 s.al,.int .i64 s.st,.slice A n c,.int .i64 t.al,.int .i64 t.st,.slice C k c2],⟨rfl,by omega,fun _=>⟨_,rfl,hg,hb.lt,fun j u hu=>?_⟩⟩,fun j u hu=>?_⟩
 ·rw [zL,Nat.zero_add,hb.cell]
  simpa using hu
 ·match j with
  |0 =>
   simp at hu;subst hu
   exact⟨A,n,c,rfl,rfl,rfl,h.at_⟩
  |1 =>
   simp at hu;subst hu
   exact⟨C,k,c2,rfl,rfl,rfl,h'.at_⟩
  |j+2=>simp at hu
theorem yM13a4 {P:Prop}(h:P:=by
 go_wp2_with fail
 have cf:=f2.out.cell
 exact bodyPost_ret (v:=.agg #[.bool false,.int .i64 0,.slice none 0 0,.slice none 0 0,.string x]) (by simp [results,Tryz.results56,go_sem,cf]) rfl f1.out
 ):P:=h
set_option maxRecDepth 100000 in
theorem spec_l13Draw {R M L K n c k c2 m d m' d':Nat} {s t:Sys} {p:Aut} {A B B' C:Option Addr} {w:World}(h:zbl w w R M L K s A n c t C k c2 p B m d B' m' d')(hM:M≤600000000)(hL:L≤100000) :
  Calls Tryz.prog 56 #[.pointer (some ⟨R,0,none⟩),.agg #[.int .i64 s.al,.int .i64 s.st,.slice A n c],.agg #[.int .i64 t.al,.int .i64 t.st,.slice C k c2],.agg #[.int .i64 p.al,.slice B m d,.slice B' m' d']] w (RetCe R (M+1000) 16 4000 w):=by
 have hRl:=h.hR
 have hx0:Ext w ((((w.alloc (.cells #[.int .i64 s.al,.int .i64 s.st,.slice A n c] 39)).alloc (.cells #[.int .i64 t.al,.int .i64 t.st,.slice C k c2] 39)).alloc (.cells #[.int .i64 p.al,.slice B m d,.slice B' m' d'] 27)).alloc (.cells #[.bool false,.int .i64 0,.slice none 0 0,.slice none 0 0,.string ⟨#[]⟩] 45)):=((((Ext.refl _).alloc _).alloc _).alloc _).alloc _
 obtain⟨b1,b2,b3⟩:=zU ((Ext.refl _).alloc _:Ext (((w.alloc (.cells #[.int .i64 s.al,.int .i64 s.st,.slice A n c] 39)).alloc (.cells #[.int .i64 t.al,.int .i64 t.st,.slice C k c2] 39)).alloc (.cells #[.int .i64 p.al,.slice B m d,.slice B' m' d'] 27)) ((((w.alloc (.cells #[.int .i64 s.al,.int .i64 s.st,.slice A n c] 39)).alloc (.cells #[.int .i64 t.al,.int .i64 t.st,.slice C k c2] 39)).alloc (.cells #[.int .i64 p.al,.slice B m d,.slice B' m' d'] 27)).alloc (.cells #[.bool false,.int .i64 0,.slice none 0 0,.slice none 0 0,.string ⟨#[]⟩] 45)))
 have bz:=Blk.new (((w.alloc (.cells #[.int .i64 s.al,.int .i64 s.st,.slice A n c] 39)).alloc (.cells #[.int .i64 t.al,.int .i64 t.st,.slice C k c2] 39)).alloc (.cells #[.int .i64 p.al,.slice B m d,.slice B' m' d'] 27)) 45 #[.bool false,.int .i64 0,.slice none 0 0,.slice none 0 0,.string ⟨#[]⟩]
 simp only [World.size_alloc] at bz
 go_enter Tryz.func56,Tryz.ntmps56
 go_upto_region 1 with fail
 generalize (((w.alloc (.cells #[.int .i64 s.al,.int .i64 s.st,.slice A n c] 39)).alloc (.cells #[.int .i64 t.al,.int .i64 t.st,.slice C k c2] 39)).alloc (.cells #[.int .i64 p.al,.slice B m d,.slice B' m' d'] 27)).alloc (.cells #[.bool false,.int .i64 0,.slice none 0 0,.slice none 0 0,.string ⟨#[]⟩] 45)=w0 at *
 have ht0:=h.ext hx0
 have hz0:=bz.lt
 have cS:=b1.cell
 have cT:=b2.cell
 have cP:=b3.cell
 obtain⟨vhd,hvhd⟩:∃ v,hdX (vpT s t p).code (vpT s t p).asm (vpT s t p).tr=v:=⟨_,rfl⟩
 obtain⟨vau,hvau⟩:∃ v,autX (vpT s t p).code (vpT s t p).asm (vpT s t p).tr=v:=⟨_,rfl⟩
 obtain⟨vst,hvst⟩:∃ v,strX (vpT s t p).code (vpT s t p).asm (vpT s t p).tr=v:=⟨_,rfl⟩
 obtain⟨vok,hvok⟩:∃ v,okC (vpT s t p).code (vpT s t p).asm (vpT s t p).tr=v:=⟨_,rfl⟩
 have hC:=hide (zeB (c:=c) (d:=d) (d':=d') (c2:=c2) ht0.is.at_ ht0.ip.reads ht0.it.at_ (by have:=ht0.ns;omega) (Nat.le_refl _))
 have hbv:=hide (bd_autX s t p)
 rw [hvhd,hvau,hvst,hvok] at hC
 rw [hvau,hvst] at hbv
 clear hvhd hvau hvst hvok
 go_upto_region 2 with (first
  |(go_at_call 109;refine (hC.out).mono ?_;rintro e w1 ⟨D,q,f,D',q',f',rfl,ho,hx1⟩;clear cS cT cP))
 have hw1:=hx1.size
 have hx2:=(Ext.refl w1).alloc (.cells #[.bool vhd,.int .i64 vau.al,.slice D q f,.slice D' q' f',.string vst] 45)
 have bc:=Blk.new w1 45 #[.bool vhd,.int .i64 vau.al,.slice D q f,.slice D' q' f',.string vst]
 have hRw0:=ht0.rd.lt
 have hce:CeAt w (w1.alloc (.cells #[.bool vhd,.int .i64 vau.al,.slice D q f,.slice D' q' f',.string vst] 45)) R M 12 4000 vau D q f D' q' f' vst:=⟨(ho.ext hx2).less (by omega),hbv,(ht0.rd.ext hx1).ext hx2,((ht0.dr.ext hx1).ext hx2),hRl⟩
 have ht2:=(ht0.ext hx1).ext hx2
 have hb12:=hx1.trans hx2
 replace b1:=b1.ext hb12
 replace b2:=b2.ext hb12
 replace b3:=b3.ext hb12
 replace bz:=bz.ext hb12
 clear ho hx2 hb12 ht0 hC
 generalize hG:w1.heap.size=G at *
 generalize w1.alloc (.cells #[.bool vhd,.int .i64 vau.al,.slice D q f,.slice D' q' f',.string vst] 45)=w2 at *
 go_wp2_with fail
 refine (zn ht2.rd (by omega)).mono ?_
 rintro e w3 ⟨y,rfl,-,-,hr3,hd3⟩
 have ht3:=ht2.drawn hd3 hr3
 replace hce:=hce.drawn hd3 hr3
 have hR3:=ht3.rd.lt
 replace b1:=b1.dr hd3 (by omega)
 replace b2:=b2.dr hd3 (by omega)
 replace b3:=b3.dr hd3 (by omega)
 replace bz:=bz.dr hd3 (by omega)
 replace bc:=bc.dr hd3 (by omega)
 have hHG:=hide (show w.heap.size+4≤G by omega)
 clear ht2 hd3 hr3 hx1 hG hw1 hz0 hRw0
 by_cases hy0:y=0
 ·subst hy0
  have cS:=b1.cell
  have cT:=b2.cell
  have cP:=b3.cell
  obtain⟨al,ha,hal⟩:=iface_and s t p
  go_wp2_with fail
  refine (zbR (c:=c) (d1:=d) (d1':=d') (c2:=c2) ht3.is.at_ ht3.ip.reads ht3.it.at_).mono ?_
  rintro e w4 ⟨rfl,hx4⟩
  generalize iface s p t=ifc at *
  clear cS cT cP
  go_wp2_with fail
  refine (zfP (ht3.rd.ext hx4) (by omega) ha).mono ?_
  rintro e w5 ⟨b,E,n5,c5,E',n5',c5',rfl,ho5,hg5,hr5,hd5⟩
  have hw4:=hx4.size
  have bz5:=(bz.ext hx4).dr hd5 (by omega)
  have hce5:CeAt w w5 R (M+1+500) 16 0 b E n5 c5 E' n5' c5' ⟨#[]⟩:=⟨ho5.less (by omega),hide ⟨BdA.of hg5.out,Nat.le_refl _⟩,hr5,(ht3.dr.ext hx4).trans hd5,hRl⟩
  obtain⟨f1,f2⟩:=(hce5.more (N:=M+1000) (H:=16) (I:=4000) (by omega) (by omega) (by omega)).fin (hd:=true) bz5 rfl (by omega)
  have cZ:=bz5.cell
  have fZ:=bz5.frozen
  clear bz5 hce5 ho5
  go_wp2_with fail
  have cf:=f2.out.cell
  exact bodyPost_ret (v:=.agg #[.bool true,.int .i64 b.al,.slice E n5 c5,.slice E' n5' c5',.string ⟨#[]⟩]) (by simp [results,Tryz.results56,go_sem,cf]) rfl f1.out
 by_cases hy1:y=1
 ·subst hy1
  have cS:=b1.cell
  have cT:=b2.cell
  go_upto_region 6 with fail
  have hx4:=(Ext.refl w3).alloc (.cells #[.int .i64 s.al,.int .i64 s.st,.slice A n c,.int .i64 t.al,.int .i64 t.st,.slice C k c2] 39)
  have bl:=Blk.new w3 39 #[.int .i64 s.al,.int .i64 s.st,.slice A n c,.int .i64 t.al,.int .i64 t.st,.slice C k c2]
  have hsl:=sl_pairR (R:=R) bl hR3 (ht3.is.ext hx4) (ht3.it.ext hx4)
  have ht4:=ht3.ext hx4
  replace bz:=bz.ext hx4
  have HT:=hide (spec_l7Trace (c:=2) (q:=5) ht4.rd (by omega) hsl (by omega) (by omega))
  clear hsl bl
  go_wp2_with fail
  refine HT.out.mono ?_
  rintro e w5 ⟨x,rfl,hx,hr5,hd5⟩
  have hce5:CeAt w w5 R (M+1+2*5+2) 0 5 autZ none 0 0 none 0 0 x:=⟨zgS _ _,hide ⟨bd_autZ _,hx⟩,hr5,ht4.dr.trans hd5,hRl⟩
  have bz5:=bz.dr hd5 (by omega)
  obtain⟨f1,f2⟩:=(hce5.more (N:=M+1000) (H:=16) (I:=4000) (by omega) (by omega) (by omega)).fin (hd:=false) bz5 rfl (by omega)
  dsimp only [autZ] at f1 f2
  have cZ:=bz5.cell
  have fZ:=bz5.frozen
  clear bz5 hce5 cS cT
  exact yM13a4
 by_cases hy2:y=2
 ·subst hy2
  go_wp2_with fail
  refine (spec_l1Word (a:=7) (q:=4) ht3.rd (by omega) (by omega) (by omega)).mono ?_
  rintro e w5 ⟨x,rfl,hx,hr5,hd5⟩
  have hce5:CeAt w w5 R (M+1+4+2) 0 5 autZ none 0 0 none 0 0 x:=⟨zgS _ _,hide ⟨bd_autZ _,by omega⟩,hr5,ht3.dr.trans hd5,hRl⟩
  have bz5:=bz.dr hd5 (by omega)
  obtain⟨f1,f2⟩:=(hce5.more (N:=M+1000) (H:=16) (I:=4000) (by omega) (by omega) (by omega)).fin (hd:=false) bz5 rfl (by omega)
  dsimp only [autZ] at f1 f2
  have cZ:=bz5.cell
  have fZ:=bz5.frozen
  clear bz5 hce5
  exact yM13a4
 have h0:((y:Int)==0)=false:=by simp;omega
 have h1:((y:Int)==1)=false:=by simp;omega
 have h2:((y:Int)==2)=false:=by simp;omega
 clear b1 b2 b3 hy0 hy1 hy2 ht3
 go_upto_block 0 with fail
 go_cut [] (fun wx=>∃ (hd:Bool) (a:Aut) (B:Option Addr) (m d:Nat) (B':Option Addr) (m' d':Nat) (x:ByteArray),Blk wx G 45 #[.bool hd,.int .i64 a.al,.slice B m d,.slice B' m' d',.string x]∧Blk wx (w.heap.size+1+1+1) 45 #[.bool false,.int .i64 0,.slice none 0 0,.slice none 0 0,.string ⟨#[]⟩]∧CeAt w wx R (M+1000) 16 4000 a B m d B' m' d' x)
 case first =>
  have cG:=bc.cell
  have fG:=bc.frozen
  have hGZ:G≠w.heap.size+1+1+1:=by have:=hHG.out;omega
  have hHG':=hHG.out
  by_cases hy3:y=3
  ·subst hy3
   cases vok
   ·go_wp2_with fail
    go_meet
    exact⟨_,_,_,_,_,_,_,_,_,bc,bz,hce.more (by omega) (by omega) (by omega)⟩
   ·cases vhd
    ·go_wp2_with fail
     go_meet
     exact⟨_,_,_,_,_,_,_,_,_,bc,bz,hce.more (by omega) (by omega) (by omega)⟩
    ·go_wp2_with fail
     refine (zem hce.rd (by omega) hce.own hce.bd.out.1 (by omega)).mono ?_
     rintro e w5 ⟨b,E,n5,c5,E',n5',c5',rfl,ho5,hb5,hr5,hd5⟩
     have hce5:=hce.drawn hd5 hr5
     have bc5:=bc.dr hd5 (by omega)
     have bz5:=bz.dr hd5 (by omega)
     clear cG fG
     have cG:=bc5.cell
     have fG:=bc5.frozen
     have hf:Frm (fun k=>k=G) w5 (((w5.setCell ⟨G,1,none⟩ (.int .i64 b.al)).setCell ⟨G,2,none⟩ (.slice E n5 c5)).setCell ⟨G,3,none⟩ (.slice E' n5' c5')):=((Frm.setCell w5 G 1 _).trans (Frm.setCell _ G 2 _)).trans (Frm.setCell _ G 3 _)
     have hB:Blk (((w5.setCell ⟨G,1,none⟩ (.int .i64 b.al)).setCell ⟨G,2,none⟩ (.slice E n5 c5)).setCell ⟨G,3,none⟩ (.slice E' n5' c5')) G 45 #[.bool true,.int .i64 b.al,.slice E n5 c5,.slice E' n5' c5',.string vst]:=by
      simpa using ((bc5.set_ 1 (.int .i64 b.al)).set_ 2 (.slice E n5 c5)).set_ 3 (.slice E' n5' c5')
     have hfin:=(({ hce5 with own:=ho5.less (by omega),bd:=hide ⟨hb5.out,hce.bd.out.2⟩ }:CeAt w w5 R _ 13 4000 b E n5 c5 E' n5' c5' vst).far bc5 hf (by omega) (by decide)).more (N:=M+1000) (H:=16) (I:=4000) (by omega) (by omega) (by omega)
     have bz6:=bz5.frm hf (fun e=>hGZ e.symm)
     clear bc5 bz5 hf
     go_wp2_with fail
     go_meet
     exact⟨_,_,_,_,_,_,_,_,_,hB,bz6,hfin⟩
  ·have h3:((y:Int)==3)=false:=by simp;omega
   by_cases hy4:y=4
   ·subst hy4
    have hf:=Frm.setCell w3 G 0 (.bool (!vhd))
    have hB:Blk (w3.setCell ⟨G,0,none⟩ (.bool (!vhd))) G 45 #[.bool (!vhd),.int .i64 vau.al,.slice D q f,.slice D' q' f',.string vst]:=by
     simpa using bc.set_ 0 (.bool (!vhd))
    have hfin:=(hce.far bc hf (by omega) (by decide)).more (N:=M+1000) (H:=16) (I:=4000) (by omega) (by omega) (by omega)
    have bz6:=bz.frm hf (fun e=>hGZ e.symm)
    go_wp2_with fail
    go_meet
    exact⟨_,_,_,_,_,_,_,_,_,hB,bz6,hfin⟩
   ·have h4:((y:Int)==4)=false:=by simp;omega
    go_wp2_with fail
    go_meet
    exact⟨_,_,_,_,_,_,_,_,_,bc,bz,hce.more (by omega) (by omega) (by omega)⟩
 case rest =>
  clear hce bc bz
  obtain⟨hd,a,B,m,d,B',m',d',x,bc,bz,hce⟩:=hcut
  obtain⟨f1,f2⟩:=hce.fin (hd:=hd) bz rfl (by omega)
  have cG:=bc.cell
  have cZ:=bz.cell
  have fZ:=bz.frozen
  go_wp2_with fail
  have cf:=f2.out.cell
  exact bodyPost_ret (v:=.agg #[.bool hd,.int .i64 a.al,.slice B m d,.slice B' m' d',.string x]) (by simp [results,Tryz.results56,go_sem,cf]) rfl f1.out
set_option maxRecDepth 100000 in
theorem zhd {R M K J m d m' d':Nat} {a:Aut} {B B':Option Addr} {x:ByteArray} {hd:Bool} {w:World}(h:CeAt w w R M K J a B m d B' m' d' x)(hM:M≤600000000)(hK:K≤60)(hJ:J≤5000) :
  Calls Tryz.prog 55 #[.pointer (some ⟨R,0,none⟩),.agg #[.bool hd,.int .i64 a.al,.slice B m d,.slice B' m' d',.string x]] w (RetCe R (M+100) (K+39) (J+1) w):=by
 have hRl:=h.hR
 obtain⟨b1,bz⟩:=zJ (Ext.refl ((w.alloc (.cells #[.bool hd,.int .i64 a.al,.slice B m d,.slice B' m' d',.string x] 45)).alloc (.cells #[.bool false,.int .i64 0,.slice none 0 0,.slice none 0 0,.string ⟨#[]⟩] 45)))
 have hx0:Ext w ((w.alloc (.cells #[.bool hd,.int .i64 a.al,.slice B m d,.slice B' m' d',.string x] 45)).alloc (.cells #[.bool false,.int .i64 0,.slice none 0 0,.slice none 0 0,.string ⟨#[]⟩] 45)):=((Ext.refl w).alloc _).alloc _
 go_enter Tryz.func55,Tryz.ntmps55
 go_upto_region 1 with fail
 generalize (w.alloc (.cells #[.bool hd,.int .i64 a.al,.slice B m d,.slice B' m' d',.string x] 45)).alloc (.cells #[.bool false,.int .i64 0,.slice none 0 0,.slice none 0 0,.string ⟨#[]⟩] 45)=w0 at *
 have hce0:=h.ext hx0
 go_wp2_with fail
 refine (zn hce0.rd (by omega)).mono ?_
 rintro e w2 ⟨y,rfl,-,-,hr2,hd2⟩
 have hce:=hce0.drawn hd2 hr2
 have hsz:=hx0.size
 have hsz2:=hce.dr.size
 replace b1:=b1.dr hd2 (by omega)
 replace bz:=bz.dr hd2 (by omega)
 clear hce0 hd2 hr2 hx0 h
 go_upto_block 0 with fail
 go_cut [] (fun wx=>∃ (a:Aut) (B:Option Addr) (m d:Nat) (B':Option Addr) (m' d':Nat) (x:ByteArray),Blk wx w.heap.size 45 #[.bool hd,.int .i64 a.al,.slice B m d,.slice B' m' d',.string x]∧Blk wx (w.heap.size+1) 45 #[.bool false,.int .i64 0,.slice none 0 0,.slice none 0 0,.string ⟨#[]⟩]∧CeAt w wx R (M+100) (K+39) (J+1) a B m d B' m' d' x)
 case first =>
  have cG:=b1.cell
  have hcases:y=0∨y=1∨y=2∨3≤y:=by omega
  rcases hcases with hy|hy|hy|hy
  ·subst hy
   have hy0:True:=trivial
   go_wp2_with fail
   refine (zbq hce.rd (by omega) hce.own hce.bd.out.1 (by omega)).mono ?_
   rintro e v1 ⟨a1,A1,n1,d1,B1,m1,e1,rfl,ho1,hb1,hr1,hd1⟩
   have hce1:=hce.drawn hd1 hr1
   have hq1:=hce.rd.lt
   have hq2:=hce1.rd.lt
   clear cG
   go_wp2_with fail
   refine (zbq hr1 (by omega) (ho1.less (by omega)) hb1.out (by omega)).mono ?_
   rintro e v2 ⟨a2,A2,n2,d2,B2,m2,e2,rfl,ho2,hb2,hr2,hd2⟩
   have hce2:=hce1.drawn hd2 hr2
   have hq3:=hce2.rd.lt
   go_wp2_with fail
   refine (zbq hr2 (by omega) (ho2.less (by omega)) hb2.out (by omega)).mono ?_
   rintro e v3 ⟨a3,A3,n3,d3,B3,m3,e3,rfl,ho3,hb3,hr3,hd3⟩
   have hce3:=hce2.drawn hd3 hr3
   have bc5:=((b1.dr hd1 (by omega)).dr hd2 (by omega)).dr hd3 (by omega)
   have bz5:=((bz.dr hd1 (by omega)).dr hd2 (by omega)).dr hd3 (by omega)
   have cG:=bc5.cell
   have fG:=bc5.frozen
   have hf:Frm (fun k=>k=w.heap.size) v3 (((v3.setCell ⟨w.heap.size,1,none⟩ (.int .i64 a3.al)).setCell ⟨w.heap.size,2,none⟩ (.slice A3 n3 d3)).setCell ⟨w.heap.size,3,none⟩ (.slice B3 m3 e3)):=((Frm.setCell v3 w.heap.size 1 _).trans (Frm.setCell _ w.heap.size 2 _)).trans (Frm.setCell _ w.heap.size 3 _)
   have hB:Blk (((v3.setCell ⟨w.heap.size,1,none⟩ (.int .i64 a3.al)).setCell ⟨w.heap.size,2,none⟩ (.slice A3 n3 d3)).setCell ⟨w.heap.size,3,none⟩ (.slice B3 m3 e3)) w.heap.size 45 #[.bool hd,.int .i64 a3.al,.slice A3 n3 d3,.slice B3 m3 e3,.string x]:=by
    simpa using ((bc5.set_ 1 (.int .i64 a3.al)).set_ 2 (.slice A3 n3 d3)).set_ 3 (.slice B3 m3 e3)
   have hfin:=(({ hce3 with own:=ho3.less (by omega),bd:=hide ⟨hb3.out,hce.bd.out.2⟩ }:CeAt w v3 R _ (K+13+13+13) J a3 A3 n3 d3 B3 m3 e3 x).far bc5 hf (by omega) (by decide)).more (N:=M+100) (H:=K+39) (I:=J+1) (by omega) (by omega) (by omega)
   have bz6:=bz5.frm hf (by omega)
   clear bc5 bz5 hf
   go_wp2_with fail
   go_meet
   exact⟨_,_,_,_,_,_,_,_,hB,bz6,hfin⟩
  ·subst hy
   have hy0:True:=trivial
   have hxs:=hce.bd.out.2
   have hKle:K≤K+39:=by omega
   generalize hK9:K+39=K9 at *
   have cG':∀ W,Dr R w2 W→∀ q,W.cell? ⟨w.heap.size,q,none⟩=#[Value.bool hd,.int .i64 a.al,.slice B m d,.slice B' m' d',.string x][q]?:=fun W hW=>(b1.dr hW (by omega)).cell
   clear cG
   go_wp2_with fail
   refine tR (fun X=>Dr R w2 X) [7] (Ord.of [0,1,2,3,4,5,6,7]) ?_
   refine tQ ?_
   (refine zj rfl rfl rfl (fun K hK=>?_);go_simp)
   refine hK.out _ _ ((Dr.refl R w2).drew.alloc _) ?_
   refine pT ?_
   (refine zj rfl rfl rfl (fun K hK=>?_);go_simp)
   have hxd:=(Ext.refl w2).drew
   have hown:=zbb w2.drew (us:=#[.string ⟨#[103]⟩,.string ⟨#[97]⟩,.string ⟨#[45]⟩]) (n:=3) rfl rfl (by omega)
   have hq1:=hce.rd.lt
   refine (l19Rd_of ((hce.rd.ext hxd).ext ((Ext.refl _).alloc _)) (by omega) (Reads.of_own hown) (by show R<w2.drew.heap.size;exact hq1) (by omega)).mono ?_
   rintro e w4 ⟨u,hu,rfl,hr4,hd4⟩
   have hd24:Dr R w2 w4:=((Dr.refl R w2).drew.alloc _).trans hd4
   have hus:u.size≤1:=by
    simp [zhj] at hu
    rcases hu with rfl|rfl|rfl<;>decide
   have hxu:¬ (9223372036854775807<x.size+u.size):=by omega
   refine hK.out _ _ hd24 ?_
   refine pT ?_
   refine tQ ?_
   have hce4:=hce.drawn hd24 hr4
   have bc5:=b1.dr hd24 (by omega)
   have bz5:=bz.dr hd24 (by omega)
   have fG:=bc5.frozen
   have hf:=Frm.setCell w4 w.heap.size 4 (.string (x++u))
   have hB:Blk (w4.setCell ⟨w.heap.size,4,none⟩ (.string (x++u))) w.heap.size 45 #[.bool hd,.int .i64 a.al,.slice B m d,.slice B' m' d',.string (x++u)]:=by
    simpa using bc5.set_ 4 (.string (x++u))
   have hfin:=(({ hce4 with bd:=hide ⟨hce.bd.out.1,by rw [ByteArray.size_append];omega⟩ }:CeAt w w4 R _ _ (J+1) a B m d B' m' d' (x++u)).far bc5 hf (by omega) (by decide)).more (N:=M+100) (H:=K9) (I:=J+1) (by omega) hKle (by omega)
   have bz6:=bz5.frm hf (by omega)
   (refine zy rfl rfl rfl rfl (fun K hK=>?_))
   go_simp
   refine hK.out _ _ ?_
   refine zG ?_
   clear bc5 bz5 hf
   go_wp2_with fail
   go_meet
   exact⟨_,_,_,_,_,_,_,_,hB,bz6,hfin⟩
  ·subst hy
   have hy0:True:=trivial
   have fG:=b1.frozen
   have hf:Frm (fun k=>k=w.heap.size) w2 (((w2.setCell ⟨w.heap.size,1,none⟩ (.int .i64 1)).setCell ⟨w.heap.size,2,none⟩ (.slice none 0 0)).setCell ⟨w.heap.size,3,none⟩ (.slice none 0 0)):=((Frm.setCell w2 w.heap.size 1 _).trans (Frm.setCell _ w.heap.size 2 _)).trans (Frm.setCell _ w.heap.size 3 _)
   have hB:Blk (((w2.setCell ⟨w.heap.size,1,none⟩ (.int .i64 1)).setCell ⟨w.heap.size,2,none⟩ (.slice none 0 0)).setCell ⟨w.heap.size,3,none⟩ (.slice none 0 0)) w.heap.size 45 #[.bool hd,.int .i64 (⟨1,[],[]⟩:Aut).al,.slice none 0 0,.slice none 0 0,.string x]:=by
    simpa using ((b1.set_ 1 (.int .i64 1)).set_ 2 (.slice none 0 0)).set_ 3 (.slice none 0 0)
   have hfin:=(({ hce with own:=⟨⟨[],World.ownsRow_nil _ _ _ _,zF.nil _ _⟩,rfl,World.ownsRow_nil _ _ _ _,rfl⟩,bd:=hide ⟨⟨Nat.zero_le _,Nat.zero_le _,fun l hl=>by simp at hl⟩,hce.bd.out.2⟩ }:CeAt w w2 R _ K J ⟨1,[],[]⟩ none 0 0 none 0 0 x).far b1 hf (by omega) (by decide)).more (N:=M+100) (H:=K+39) (I:=J+1) (by omega) (by omega) (by omega)
   have bz6:=bz.frm hf (by omega)
   go_wp2_with fail
   go_meet
   exact⟨_,_,_,_,_,_,_,_,hB,bz6,hfin⟩
  ·have h0:((y:Int)==0)=false:=by simp;omega
   have h1:((y:Int)==1)=false:=by simp;omega
   have h2:((y:Int)==2)=false:=by simp;omega
   go_wp2_with fail
   go_meet
   exact⟨_,_,_,_,_,_,_,_,b1,bz,hce.more (by omega) (by omega) (by omega)⟩
 case rest =>
  clear hce b1 bz hsz2
  obtain⟨a,B,m,d,B',m',d',x,bc,bz,hce⟩:=hcut
  obtain⟨f1,f2⟩:=hce.fin (hd:=hd) bz rfl (by omega)
  have cG:=bc.cell
  have cZ:=bz.cell
  have fZ:=bz.frozen
  go_wp2_with fail
  have cf:=f2.out.cell
  exact bodyPost_ret (v:=.agg #[.bool hd,.int .i64 a.al,.slice B m d,.slice B' m' d',.string x]) (by simp [results,Tryz.results55,go_sem,cf]) rfl f1.out
set_option maxHeartbeats 4000000
theorem zT.at_new {w:World} {base lo:Nat} {A:Option Addr} {n c:Nat} {A':Option Addr} {n' c':Nat} {a:Aut}(h:zT w base A n c A' n' c' a)(hl:lo≤base):zR w lo w.heap.size A n A' n' a:=(h.less hl).reads
set_option maxHeartbeats 4000000
def RetDK (w:World) (e:Ending) (w':World):Prop:=
 ∃ (s:Sys) (A:Option Addr) (n c:Nat) (t:Sys) (C:Option Addr) (k c2:Nat) (p:Aut) (B:Option Addr) (m d:Nat) (B':Option Addr) (m' d':Nat) (hd:Bool) (a:Aut) (D:Option Addr) (q f:Nat) (D':Option Addr) (q' f':Nat) (x:ByteArray),
  e=.returned (.tuple #[.agg #[.int .i64 s.al,.int .i64 s.st,.slice A n c],.agg #[.int .i64 t.al,.int .i64 t.st,.slice C k c2],.agg #[.int .i64 p.al,.slice B m d,.slice B' m' d'],.agg #[.bool hd,.int .i64 a.al,.slice D q f,.slice D' q' f',.string x]]) ∧
  (zO w' w.heap.size w'.heap.size A n s∧zO w' w.heap.size w'.heap.size C k t∧zR w' w.heap.size w'.heap.size B m B' m' p∧zR w' w.heap.size w'.heap.size D q D' q' a) ∧
  Hid (((n≤100000∧n≤c)∧(k≤100000∧k≤c2))∧BdA 100 p∧BdA 100 a∧x.size≤5000)∧Ext w w'
theorem draw_ck {R M L K N H J n c k c2 m d m' d' q f q' f':Nat} {s t:Sys} {p a:Aut} {A B B' C D D':Option Addr} {x:ByteArray} {hd:Bool} {w w1 W W':World} {S:Nat→Prop}(hx:Ext w w1)(hR:w.heap.size≤R)(hT:zbl w1 W R M L K s A n c t C k c2 p B m d B' m' d')(hC:CeAt w1 W R N H J a D q f D' q' f' x)
  (hF:Frm S W W') (hS:∀ k,S k→w.heap.size≤k∧k<R) (hL:L≤100000) (hK:K≤100) (hH:H≤100) (hJ:J≤5000) :
  RetDK w (.returned (.tuple #[.agg #[.int .i64 s.al,.int .i64 s.st,.slice A n c],.agg #[.int .i64 t.al,.int .i64 t.st,.slice C k c2],.agg #[.int .i64 p.al,.slice B m d,.slice B' m' d'],.agg #[.bool hd,.int .i64 a.al,.slice D q f,.slice D' q' f',.string x]])) W':=by
 have hxW:Ext w W:=Dr.new hx hR hT.dr
 have i1:=hT.is.frm hF (fun k hk h1=>by have:=hS k hk;omega)
 have i2:=hT.it.frm hF (fun k hk h1=>by have:=hS k hk;omega)
 have i3:=hT.ip.keep hF (fun k h1 hk=>by have:=hS k hk;omega)
 have i4:=hC.own.keep hF (fun k h1 hk=>by have:=hS k hk;omega)
 have hn:=hT.ns
 exact⟨s,A,n,c,t,C,k,c2,p,B,m,d,B',m',d',hd,a,D,q,f,D',q',f',x,rfl,⟨i1.new hR,i2.new hR,i3.at_new (by omega),i4.at_new (by omega)⟩,hide ⟨by omega,BdL.more hT.bd.out hK,BdL.more hC.bd.out.1 hH,Nat.le_trans hC.bd.out.2 hJ⟩,hxW.frm hF (fun k hk hk2=>by have:=hS k hk2;omega)⟩
set_option maxRecDepth 100000 in
theorem zge {A0:Option Addr} {n0 c0:Nat} {w:World}(h:Bytes w A0 n0)(hn:n0≤9223372036854775807)(hc:n0≤c0)(hc2:c0≤9223372036854775807) :
  Calls Tryz.prog 24 #[.slice A0 n0 c0] w (RetDK w):=by
 have hx0:Ext w ((((w.alloc (.cells #[.int .i64 0,.int .i64 0,.slice none 0 0] 39)).alloc (.cells #[.int .i64 0,.int .i64 0,.slice none 0 0] 39)).alloc (.cells #[.int .i64 0,.slice none 0 0,.slice none 0 0] 27)).alloc (.cells #[.bool false,.int .i64 0,.slice none 0 0,.slice none 0 0,.string ⟨#[]⟩] 45)):=((((Ext.refl _).alloc _).alloc _).alloc _).alloc _
 obtain⟨z1,z2,z3,z4⟩:=ext_blk4 (Ext.refl ((((w.alloc (.cells #[.int .i64 0,.int .i64 0,.slice none 0 0] 39)).alloc (.cells #[.int .i64 0,.int .i64 0,.slice none 0 0] 39)).alloc (.cells #[.int .i64 0,.slice none 0 0,.slice none 0 0] 27)).alloc (.cells #[.bool false,.int .i64 0,.slice none 0 0,.slice none 0 0,.string ⟨#[]⟩] 45)))
 have hsz:((((w.alloc (.cells #[.int .i64 0,.int .i64 0,.slice none 0 0] 39)).alloc (.cells #[.int .i64 0,.int .i64 0,.slice none 0 0] 39)).alloc (.cells #[.int .i64 0,.slice none 0 0,.slice none 0 0] 27)).alloc (.cells #[.bool false,.int .i64 0,.slice none 0 0,.slice none 0 0,.string ⟨#[]⟩] 45)).heap.size=w.heap.size+4:=by simp
 have hh:=hide (h.ext hx0)
 clear h
 go_enter Tryz.func24,Tryz.ntmps24
 go_upto_region 1 with fail
 generalize (((w.alloc (.cells #[.int .i64 0,.int .i64 0,.slice none 0 0] 39)).alloc (.cells #[.int .i64 0,.int .i64 0,.slice none 0 0] 39)).alloc (.cells #[.int .i64 0,.slice none 0 0,.slice none 0 0] 27)).alloc (.cells #[.bool false,.int .i64 0,.slice none 0 0,.slice none 0 0,.string ⟨#[]⟩] 45)=w0 at *
 go_wp2_with fail
 refine (zeM hh.out hn hc hc2).mono ?_
 rintro e w1 ⟨R,rfl,hR,hr1,hx1⟩
 have hx01:=hx0.trans hx1
 have hRl:=hr1.lt
 replace z1:=z1.ext hx1
 replace z2:=z2.ext hx1
 replace z3:=z3.ext hx1
 replace z4:=z4.ext hx1
 go_upto_region 3 with (first
  |(go_at_call 54;refine (spec_l12Draw hr1 (by omega)).mono ?_;rintro e w2 ⟨s,A,n,c,t,C,k,c2,p,B,m,d,B',m',d',rfl,ht⟩))
 have hx2:Ext w2 (((w2.alloc (.cells #[.int .i64 s.al,.int .i64 s.st,.slice A n c] 39)).alloc (.cells #[.int .i64 t.al,.int .i64 t.st,.slice C k c2] 39)).alloc (.cells #[.int .i64 p.al,.slice B m d,.slice B' m' d'] 27)):=(((Ext.refl _).alloc _).alloc _).alloc _
 obtain⟨b1,b2,b3⟩:=zU (Ext.refl (((w2.alloc (.cells #[.int .i64 s.al,.int .i64 s.st,.slice A n c] 39)).alloc (.cells #[.int .i64 t.al,.int .i64 t.st,.slice C k c2] 39)).alloc (.cells #[.int .i64 p.al,.slice B m d,.slice B' m' d'] 27)))
 have hw2:=ht.dr.size
 have zz:=hide (And.intro ((z1.dr ht.dr (by omega)).ext hx2) (And.intro ((z2.dr ht.dr (by omega)).ext hx2) (And.intro ((z3.dr ht.dr (by omega)).ext hx2) ((z4.dr ht.dr (by omega)).ext hx2))))
 have ht2:=ht.ext hx2
 have hsz2:(((w2.alloc (.cells #[.int .i64 s.al,.int .i64 s.st,.slice A n c] 39)).alloc (.cells #[.int .i64 t.al,.int .i64 t.st,.slice C k c2] 39)).alloc (.cells #[.int .i64 p.al,.slice B m d,.slice B' m' d'] 27)).heap.size=w2.heap.size+3:=by simp
 clear ht hx2 z1 z2 z3 z4
 generalize hG:w2.heap.size=G at *
 generalize ((w2.alloc (.cells #[.int .i64 s.al,.int .i64 s.st,.slice A n c] 39)).alloc (.cells #[.int .i64 t.al,.int .i64 t.st,.slice C k c2] 39)).alloc (.cells #[.int .i64 p.al,.slice B m d,.slice B' m' d'] 27)=w3 at *
 clear hG
 have cS:=b1.cell
 have cT:=b2.cell
 have cP:=b3.cell
 have HD:=hide (spec_l13Draw ht2.own (by omega) (by omega))
 have hn2:=ht2.ns
 go_upto_region 4 with (first
  |(go_at_call 56;refine HD.out.mono ?_;rintro e w4 ⟨hd4,a4,D4,q4,f4,D4',q4',f4',x4,rfl,hc4⟩;have hWr:=hide (zhd (hd:=hd4) ({ hc4 with dr:=Dr.refl _ _,hR:=hc4.rd.lt }:CeAt w4 w4 R _ 16 4000 a4 D4 q4 f4 D4' q4' f4' x4) (by omega) (by omega) (by omega)))
  |(go_at_call 55;refine hWr.out.mono ?_;rintro e w5 ⟨hd,a,D,q,f,D',q',f',x,rfl,hc5⟩))
 have hc4w:=hc4.dr
 have hc5w:=hc5.dr
 have hx6:=(Ext.refl w5).alloc (.cells #[.bool hd,.int .i64 a.al,.slice D q f,.slice D' q' f',.string x] 45)
 have bc:=Blk.new w5 45 #[.bool hd,.int .i64 a.al,.slice D q f,.slice D' q' f',.string x]
 have hdw:Dr R w3 (w5.alloc (.cells #[.bool hd,.int .i64 a.al,.slice D q f,.slice D' q' f',.string x] 45)):=(hc4w.trans hc5w).ext hx6
 have hce:=((hc5.less hc4w hc4.hR).ext hx6).less ht2.dr hRl
 have ht6:=ht2.drawn hdw hce.rd
 have hs45:=(hc4w.trans hc5w).size
 replace b1:=b1.dr hdw (by omega)
 replace b2:=b2.dr hdw (by omega)
 replace b3:=b3.dr hdw (by omega)
 obtain⟨z1,z2,z3,z4⟩:=zz.out
 replace zz:=hide (And.intro (z1.dr hdw (by omega)) (And.intro (z2.dr hdw (by omega)) (And.intro (z3.dr hdw (by omega)) (z4.dr hdw (by omega)))))
 clear hc4 hc5 hc4w hc5w hx6 hdw ht2 z1 z2 z3 z4 HD hWr cS cT cP hx0 hx1
 have hGc:=hide (show G+3≤w5.heap.size∧R<G by omega)
 generalize hGe:w5.heap.size=Gc at *
 generalize w5.alloc (.cells #[.bool hd,.int .i64 a.al,.slice D q f,.slice D' q' f',.string x] 45)=w6 at *
 clear hGe hs45 hsz2
 have cS:=b1.cell
 have cT:=b2.cell
 have cP:=b3.cell
 have HS:=hide (spec_l9Spoil ht6.own (by omega) (by omega) (by omega))
 go_wp2_with fail
 refine HS.out.mono ?_
 rintro e w7 ⟨s7,A7,n7,c7,t7,C7,k7,d7,p7,B7,m7,e7,B7',m7',e7',rfl,ht7⟩
 have hR6:=ht6.rd.lt
 have hdw:=ht7.dr
 replace hce:=hce.drawn hdw ht7.rd
 have ht8:=ht7.less ht6.dr hRl
 replace b1:=b1.dr hdw (by have:=hGc.out;omega)
 replace b2:=b2.dr hdw (by have:=hGc.out;omega)
 replace b3:=b3.dr hdw (by have:=hGc.out;omega)
 replace bc:=bc.dr hdw (by have:=hGc.out;omega)
 obtain⟨z1,z2,z3,z4⟩:=zz.out
 replace zz:=hide (And.intro (z1.dr hdw (by omega)) (And.intro (z2.dr hdw (by omega)) (And.intro (z3.dr hdw (by omega)) (z4.dr hdw (by omega)))))
 clear ht6 ht7 hdw z1 z2 z3 z4 HS cS cT cP
 have cS:=b1.cell
 have fS:=b1.frozen
 have cT:=b2.cell
 have fT:=b2.frozen
 have cP:=b3.cell
 have fP:=b3.frozen
 go_upto_region 5 with fail
 have e1:=zZ w7 G (.int .i64 s7.al) (.int .i64 s7.st) (.slice A7 n7 c7)
 have q1:=zap b1 rfl (.int .i64 s7.al) (.int .i64 s7.st) (.slice A7 n7 c7)
 replace ht8:=ht8.far b1 e1 (by omega) (by decide) (by decide)
 replace hce:=hce.far b1 e1 (by omega) (by decide)
 replace b2:=b2.frm e1 (by omega)
 replace b3:=b3.frm e1 (by omega)
 replace bc:=bc.frm e1 (by have:=hGc.out;omega)
 obtain⟨z1,z2,z3,z4⟩:=zz.out
 replace z1:=z1.frm e1 (by omega)
 replace z2:=z2.frm e1 (by omega)
 replace z3:=z3.frm e1 (by omega)
 replace z4:=z4.frm e1 (by omega)
 clear zz e1 b1 cS fS cT fT cP fP
 generalize ((w7.setCell ⟨G,0,none⟩ (.int .i64 s7.al)).setCell ⟨G,1,none⟩ (.int .i64 s7.st)).setCell ⟨G,2,none⟩ (.slice A7 n7 c7)=w8 at *
 have e1:=zZ w8 (G+1+1) (.int .i64 p7.al) (.slice B7 m7 e7) (.slice B7' m7' e7')
 have q3:=zap b3 rfl (.int .i64 p7.al) (.slice B7 m7 e7) (.slice B7' m7' e7')
 replace ht8:=ht8.far b3 e1 (by omega) (by decide) (by decide)
 replace hce:=hce.far b3 e1 (by omega) (by decide)
 replace b2:=b2.frm e1 (by omega)
 replace q1:=q1.frm e1 (by omega)
 replace bc:=bc.frm e1 (by have:=hGc.out;omega)
 replace z1:=z1.frm e1 (by omega)
 replace z2:=z2.frm e1 (by omega)
 replace z3:=z3.frm e1 (by omega)
 replace z4:=z4.frm e1 (by omega)
 clear e1 b3
 generalize ((w8.setCell ⟨G+1+1,0,none⟩ (.int .i64 p7.al)).setCell ⟨G+1+1,1,none⟩ (.slice B7 m7 e7)).setCell ⟨G+1+1,2,none⟩ (.slice B7' m7' e7')=w9 at *
 have e1:=zZ w9 (G+1) (.int .i64 t7.al) (.int .i64 t7.st) (.slice C7 k7 d7)
 have q2:=zap b2 rfl (.int .i64 t7.al) (.int .i64 t7.st) (.slice C7 k7 d7)
 replace ht8:=ht8.far b2 e1 (by omega) (by decide) (by decide)
 replace hce:=hce.far b2 e1 (by omega) (by decide)
 replace q1:=q1.frm e1 (by omega)
 replace q3:=q3.frm e1 (by omega)
 replace bc:=bc.frm e1 (by have:=hGc.out;omega)
 replace z1:=z1.frm e1 (by omega)
 replace z2:=z2.frm e1 (by omega)
 replace z3:=z3.frm e1 (by omega)
 replace z4:=z4.frm e1 (by omega)
 clear e1 b2
 generalize ((w9.setCell ⟨G+1,0,none⟩ (.int .i64 t7.al)).setCell ⟨G+1,1,none⟩ (.int .i64 t7.st)).setCell ⟨G+1,2,none⟩ (.slice C7 k7 d7)=wE at *
 have cS:∀ W,Frm (fun k=>k=w.heap.size∨k=w.heap.size+1∨k=w.heap.size+1+1) wE W→∀ q,W.cell? ⟨G,q,none⟩=#[Value.int .i64 s7.al,.int .i64 s7.st,.slice A7 n7 c7][q]?:=fun W hW=>(q1.frm hW (by have:=hGc.out;omega)).cell
 have cT:∀ W,Frm (fun k=>k=w.heap.size∨k=w.heap.size+1∨k=w.heap.size+1+1) wE W→∀ q,W.cell? ⟨G+1,q,none⟩=#[Value.int .i64 t7.al,.int .i64 t7.st,.slice C7 k7 d7][q]?:=fun W hW=>(q2.frm hW (by have:=hGc.out;omega)).cell
 have cP:∀ W,Frm (fun k=>k=w.heap.size∨k=w.heap.size+1∨k=w.heap.size+1+1) wE W→∀ q,W.cell? ⟨G+1+1,q,none⟩=#[Value.int .i64 p7.al,.slice B7 m7 e7,.slice B7' m7' e7'][q]?:=fun W hW=>(q3.frm hW (by have:=hGc.out;omega)).cell
 have cC:∀ W,Frm (fun k=>k=w.heap.size∨k=w.heap.size+1∨k=w.heap.size+1+1) wE W→∀ j,W.cell? ⟨Gc,j,none⟩=#[Value.bool hd,.int .i64 a.al,.slice D q f,.slice D' q' f',.string x][j]?:=fun W hW=>(bc.frm hW (by have:=hGc.out;omega)).cell
 have hS0:Frm (fun k=>k=w.heap.size∨k=w.heap.size+1∨k=w.heap.size+1+1) wE wE.drew:=(Ext.refl wE).drew.toFrm
 have hxE:=(Ext.refl wE).drew
 have hF0:Frm (fun k=>k=w.heap.size∨k=w.heap.size+1∨k=w.heap.size+1+1∨k=w.heap.size+1+1+1) wE wE:=Frm.refl _ _
 clear q1 q2 q3 bc
 go_wp2_with fail
 refine tR (fun X=>Frm (fun k=>k=w.heap.size∨k=w.heap.size+1∨k=w.heap.size+1+1) wE X) [7] (Ord.of [0,1,2,3,4,5,6,7]) ?_
 refine tQ ?_
 have hFd:Frm (fun k=>k=w.heap.size∨k=w.heap.size+1∨k=w.heap.size+1+1∨k=w.heap.size+1+1+1) wE wE.drew:=hxE.toFrm
 replace z1:=z1.ext hxE
 replace z2:=z2.ext hxE
 replace z3:=z3.ext hxE
 replace z4:=z4.ext hxE
 clear hF0
 generalize hwD:wE.drew=wD at *
 clear hwD hxE
 have k1:=z1.cell
 have g1:=z1.frozen
 (refine zj rfl rfl rfl (fun K hK=>?_);go_simp)
 have r1:=zap z1 rfl (.int .i64 s7.al) (.int .i64 s7.st) (.slice A7 n7 c7)
 have e1:=zZ wD w.heap.size (.int .i64 s7.al) (.int .i64 s7.st) (.slice A7 n7 c7)
 replace z2:=z2.frm e1 (by omega)
 replace z3:=z3.frm e1 (by omega)
 replace z4:=z4.frm e1 (by omega)
 have hS1:=hS0.trans (e1.mono (T:=fun k=>k=w.heap.size∨k=w.heap.size+1∨k=w.heap.size+1+1) (fun k _ hk=>.inl hk))
 replace hFd:=hFd.trans (e1.mono (T:=fun k=>k=w.heap.size∨k=w.heap.size+1∨k=w.heap.size+1+1∨k=w.heap.size+1+1+1) (fun k _ hk=>.inl hk))
 refine hK.out _ _ hS1 ?_
 refine pT ?_
 clear k1 g1 z1 e1 hS0
 generalize ((wD.setCell ⟨w.heap.size,0,none⟩ (.int .i64 s7.al)).setCell ⟨w.heap.size,1,none⟩ (.int .i64 s7.st)).setCell ⟨w.heap.size,2,none⟩ (.slice A7 n7 c7)=wA at *
 have k1:=z2.cell
 have g1:=z2.frozen
 (refine zj rfl rfl rfl (fun K hK=>?_);go_simp)
 have r2:=zap z2 rfl (.int .i64 t7.al) (.int .i64 t7.st) (.slice C7 k7 d7)
 have e1:=zZ wA (w.heap.size+1) (.int .i64 t7.al) (.int .i64 t7.st) (.slice C7 k7 d7)
 replace r1:=r1.frm e1 (by omega)
 replace z3:=z3.frm e1 (by omega)
 replace z4:=z4.frm e1 (by omega)
 have hS2:=hS1.trans (e1.mono (T:=fun k=>k=w.heap.size∨k=w.heap.size+1∨k=w.heap.size+1+1) (fun k _ hk=>.inr (.inl hk)))
 replace hFd:=hFd.trans (e1.mono (T:=fun k=>k=w.heap.size∨k=w.heap.size+1∨k=w.heap.size+1+1∨k=w.heap.size+1+1+1) (fun k _ hk=>.inr (.inl hk)))
 refine hK.out _ _ hS2 ?_
 refine pT ?_
 clear k1 g1 z2 e1 hS1
 generalize ((wA.setCell ⟨w.heap.size+1,0,none⟩ (.int .i64 t7.al)).setCell ⟨w.heap.size+1,1,none⟩ (.int .i64 t7.st)).setCell ⟨w.heap.size+1,2,none⟩ (.slice C7 k7 d7)=wB at *
 have k1:=z3.cell
 have g1:=z3.frozen
 (refine zj rfl rfl rfl (fun K hK=>?_);go_simp)
 have r3:=zap z3 rfl (.int .i64 p7.al) (.slice B7 m7 e7) (.slice B7' m7' e7')
 have e1:=zZ wB (w.heap.size+1+1) (.int .i64 p7.al) (.slice B7 m7 e7) (.slice B7' m7' e7')
 replace r1:=r1.frm e1 (by omega)
 replace r2:=r2.frm e1 (by omega)
 replace z4:=z4.frm e1 (by omega)
 have hS3:=hS2.trans (e1.mono (T:=fun k=>k=w.heap.size∨k=w.heap.size+1∨k=w.heap.size+1+1) (fun k _ hk=>.inr (.inr hk)))
 replace hFd:=hFd.trans (e1.mono (T:=fun k=>k=w.heap.size∨k=w.heap.size+1∨k=w.heap.size+1+1∨k=w.heap.size+1+1+1) (fun k _ hk=>.inr (.inr (.inl hk))))
 refine hK.out _ _ hS3 ?_
 refine pT ?_
 clear k1 g1 z3 e1 hS2
 generalize ((wB.setCell ⟨w.heap.size+1+1,0,none⟩ (.int .i64 p7.al)).setCell ⟨w.heap.size+1+1,1,none⟩ (.slice B7 m7 e7)).setCell ⟨w.heap.size+1+1,2,none⟩ (.slice B7' m7' e7')=wC at *
 have k1:=z4.cell
 have g1:=z4.frozen
 (refine zy rfl rfl rfl rfl (fun K hK=>?_))
 go_simp
 have r4:=zaq z4 rfl (.bool hd) (.int .i64 a.al) (.slice D q f) (.slice D' q' f') (.string x)
 have e1:=zar wC (w.heap.size+1+1+1) (.bool hd) (.int .i64 a.al) (.slice D q f) (.slice D' q' f') (.string x)
 replace r1:=r1.frm e1 (by omega)
 replace r2:=r2.frm e1 (by omega)
 replace r3:=r3.frm e1 (by omega)
 replace hFd:=hFd.trans (e1.mono (T:=fun k=>k=w.heap.size∨k=w.heap.size+1∨k=w.heap.size+1+1∨k=w.heap.size+1+1+1) (fun k _ hk=>.inr (.inr (.inr hk))))
 refine hK.out _ _ ?_
 refine zG ?_
 have hfin:=hide (draw_ck (hd:=hd) hx01 (by omega) ht8 hce hFd (fun k hk=>by omega) (by omega) (by omega) (by omega) (by omega))
 clear k1 g1 z4 e1 hS3 hFd cS cT cP cC
 generalize (((((wC.setCell ⟨w.heap.size+1+1+1,0,none⟩ (.bool hd)).setCell ⟨w.heap.size+1+1+1,1,none⟩ (.int .i64 a.al)).setCell ⟨w.heap.size+1+1+1,2,none⟩ (.slice D q f)).setCell ⟨w.heap.size+1+1+1,3,none⟩ (.slice D' q' f')).setCell ⟨w.heap.size+1+1+1,4,none⟩ (.string x))=wF at *
 go_wp2_with fail
 have c1:=r1.cell
 have cc2:=r2.cell
 have c3:=r3.cell
 have c4:=r4.cell
 exact bodyPost_ret (v:=.tuple #[.agg #[.int .i64 s7.al,.int .i64 s7.st,.slice A7 n7 c7],.agg #[.int .i64 t7.al,.int .i64 t7.st,.slice C7 k7 d7],.agg #[.int .i64 p7.al,.slice B7 m7 e7,.slice B7' m7' e7'],.agg #[.bool hd,.int .i64 a.al,.slice D q f,.slice D' q' f',.string x]]) (by simp [results,Tryz.results24,go_sem,c1,cc2,c3,c4]) rfl hfin.out
theorem zfr {s t:Sys} {p a:Aut} {x:ByteArray}(hc:zP false a x=true) :
  (zcX s t p false a x=0↔topB [s,t] x=true∧zeH p x=true)∧zcX s t p false a x≠3∧zcX s t p false a x≠4∧zcX s t p false a x≠5:=by
 unfold zcX zeQ
 by_cases h1:iface s p t<0
 ·rw [if_pos h1]
  refine⟨⟨fun h=>by omega,fun ⟨h2,h3⟩=>?_⟩,by omega,by omega,by omega⟩
  rw [zea] at h1
  have h4:zi s=true∧zi t=true:=by
   unfold topB at h2
   simp only [Bool.and_eq_true] at h2
   have:=h2.1
   simp only [zH,Bool.and_eq_true,List.all_cons,List.all_nil] at this
   simp at this
   exact this
  have h5:zk p=true:=by
   unfold zeH at h3
   simp only [Bool.and_eq_true] at h3
   exact h3.1
  rw [h4.1,h4.2,h5] at h1
  cases h1
 ·rw [if_neg h1,hc,if_neg (by decide),if_pos rfl]
  cases h2:topB [s,t] x<;>cases h3:zeH p x<;>simp
theorem zfs (s t:Sys) (p a:Aut)(hd:Bool) (x:ByteArray):(zcX s t p hd a x=1↔iface s p t<0)∧(zcX s t p hd a x=2↔¬ iface s p t<0∧zP hd a x=false):=by
 unfold zcX zeQ
 by_cases h1:iface s p t<0
 ·simp [h1]
 ·simp only [h1,if_false,not_false_iff,true_and]
  cases h2:zP hd a x
  ·simp
  ·simp only [Bool.true_eq_false,if_false,iff_false]
   refine⟨?_,?_⟩<;>((repeat' split)<;>omega)
set_option maxHeartbeats 1000000
theorem dw_goes {s t:Sys} {p q:Nat}(hp:p≤16)(hf:Few p s.edges)(hg:Few q t.edges)(hq:1≤q):∀ (n:Nat) (v:List Nat),v.length=n→(∀ l∈v,s.al.toNat.testBit l=true)→∀ i,Goes (cho s) [0] v i →
  ∃ x,Goes (dW s.edges t.edges (2 ^ q)) [1] v x∧x / 2 ^ q=i∧x % 2 ^ q=runB t.edges 1 v:=by
 intro n
 induction n with
 |zero =>
  intro v hl _ i h
  obtain rfl:=List.eq_nil_of_length_eq_zero hl
  have h0:=h.inv_nil
  simp only [List.mem_singleton] at h0
  subst h0
  obtain⟨h1,h2⟩:=node_one hq
  exact⟨1,.nil (by simp),h1,by rw [h2];rfl⟩
 |succ n ih =>
  intro v hl hv i h
  rcases zan v with rfl|⟨w,l,rfl⟩
  ·simp at hl
  obtain⟨m,h1,h2⟩:=h.inv
  obtain⟨x,h3,h4,h5⟩:=ih w (by simpa using hl) (fun a ha=>hv a (by simp [ha])) m h1
  have hlt:=zcx hg (runB t.edges 1 w) l
  unfold cho at h2
  rw [if_pos (hv l (by simp)),zB] at h2
  have hE:E s.edges m l i:=(E_iff hf m l i).2 h2.2
  have e1:(i*2 ^ q+zad t.edges (runB t.edges 1 w) l) / 2 ^ q=i:=by
   rw [Nat.mul_comm,Nat.mul_add_div (Nat.two_pow_pos q),Nat.div_eq_of_lt hlt,Nat.add_zero]
  have e2:(i*2 ^ q+zad t.edges (runB t.edges 1 w) l) % 2 ^ q=zad t.edges (runB t.edges 1 w) l:=by
   rw [Nat.mul_comm,Nat.mul_add_mod,Nat.mod_eq_of_lt hlt]
  refine⟨i*2 ^ q+zad t.edges (runB t.edges 1 w) l,.snoc h3 ((dW_mem hp hf hg).2 ⟨by rw [h4,e1];exact hE,by rw [e2,h5]⟩),e1,?_⟩
  rw [e2,zaT]
theorem within_runs {s t:Sys}(h:zcq s t=true) {v:List Nat}(hv:∀ l∈v,l<6)(hr:Runs s v):Runs t v:=by
 have hs:zcj s t=true:=by unfold zcq at h;rw [Bool.and_eq_true] at h;exact h.1
 obtain⟨v1,v2,he⟩:=zcG hs
 obtain⟨p,hp,hp1,hp2,hf⟩:=zax v1
 obtain⟨q,hq,hq1,hq2,hg⟩:=zax v2
 have hl:=out_lost h hq
 have h1:Runs s (v.filter fun l=>s.al.toNat.testBit l):=(zdP (fun l _ hb=>hb)).2 hr
 have h2:∀ l∈v.filter (fun l=>s.al.toNat.testBit l),s.al.toNat.testBit l=true:=fun l hl=>by simpa using (List.mem_filter.1 hl).2
 obtain⟨i,hi⟩:=h1
 obtain⟨x,h3,-,h5⟩:=dw_goes hp2 hf hg hq1 _ _ rfl h2 i hi
 have h6:=hl _ (fun l hl=>zB.2 ⟨hv l (List.mem_filter.1 hl).1,h2 l hl⟩) x h3
 have h7:runB t.edges 1 (v.filter fun l=>s.al.toNat.testBit l)≠0:=by
  rw [← h5]
  simpa using h6
 obtain⟨k,hk⟩:=Nat.exists_testBit_of_ne_zero h7
 have h8:=(zfJ hg hq2 _ _ rfl (fun l hl=>by rw [← he];exact h2 l hl) k).1 hk
 exact (zdP (f:=fun l=>s.al.toNat.testBit l) (fun l _ hb=>by rw [he];exact hb)).1 ⟨k,h8⟩
theorem top_more {s t x:Sys} {w:ByteArray}(h:zcq t x=true)(ht:topB [s,t] w=true):topB [s,x] w=true:=by
 have hs:zcj t x=true:=by unfold zcq at h;rw [Bool.and_eq_true] at h;exact h.1
 obtain⟨v1,v2,he⟩:=zcG hs
 obtain⟨h1,h2,h3,h4⟩:=top_iff.1 ht
 have e:zal [s,x]=zal [s,t]:=by simp [zal,he]
 refine top_iff.2 ⟨?_,h2,by rw [e];exact h3,fun y hy=>?_⟩
 ·obtain⟨-,h5⟩:=zaQ h1
  exact parts_mk (by simp) (by simp) (fun y hy=>by
   rcases List.mem_cons.1 hy with rfl|hy
   ·exact h5 _ (by simp)
   ·simp only [List.mem_singleton] at hy;subst hy;exact v2)
 ·rcases List.mem_cons.1 hy with rfl|hy
  ·exact h4 _ (by simp)
  ·simp only [List.mem_singleton] at hy
   subst hy
   exact within_runs h (zhp h2) (h4 t (by simp))
theorem check_more {s t x:Sys} {p a:Aut} {w:ByteArray}(h:zcq t x=true)(hz:zcX s t p false a w=0):zcX s x p false a w=0:=by
 have hc:zP false a w=true:=by
  rw [← Bool.not_eq_false]
  intro hc
  have h1:=(zfs s t p a false w).2.2
  by_cases hi:iface s p t<0
  ·have:=(zfs s t p a false w).1.2 hi
   omega
  ·have:=h1 ⟨hi,hc⟩
   omega
 obtain⟨h1,h2⟩:=(zfr hc).1.1 hz
 exact (zfr hc).1.2 ⟨top_more h h1,h2⟩
set_option maxHeartbeats 4000000
def prs:List (Nat × Nat)→List Value
 |[]=>[]
 |p :: r=>.int .i64 (p.1:Nat) :: .int .i64 (p.2:Nat) :: prs r
theorem zgt (l:List (Nat × Nat)):(prs l).length=l.length*2:=by
 induction l with
 |nil=>rfl
 |cons e r ih=>simp only [prs,List.length_cons,ih];omega
theorem prs_append (l m:List (Nat × Nat)):prs (l++m)=prs l++prs m:=by
 induction l with
 |nil=>rfl
 |cons e r ih=>simp [prs,ih]
theorem prs_get {l:List (Nat × Nat)} {k:Nat} {p:Nat × Nat}(h:l[k]?=some p):(prs l)[k*2]?=some (.int .i64 (p.1:Nat))∧(prs l)[k*2+1]?=some (.int .i64 (p.2:Nat)):=by
 induction l generalizing k with
 |nil=>simp at h
 |cons a r ih =>
  cases k with
  |zero=>simp at h;subst h;exact⟨rfl,rfl⟩
  |succ k =>
   have:=ih (k:=k) (by simpa using h)
   have e1:(k+1)*2=k*2+1+1:=by omega
   refine⟨?_,?_⟩<;>rw [e1]<;>simp only [prs,List.getElem?_cons_succ]
   ·exact this.1
   ·exact this.2
theorem Reads.pr {w:World} {lo hi n k:Nat} {A:Option Addr} {l:List (Nat × Nat)}(h:Reads w lo hi 2 A n (prs l))(hk:k<n) :
  ∃ b o p,A=some ⟨b,o,none⟩∧lo≤b∧b<hi∧Hid (l[k]?=some p)∧w.cell? ⟨b,o+k*2,none⟩=some (.int .i64 (p.1:Nat))∧w.cell? ⟨b,o+k*2+1,none⟩=some (.int .i64 (p.2:Nat)):=by
 obtain⟨ad,eA,hl,hb,hc⟩:=h.at_ hk
 have hn:l.length=n:=by have:=h.length;rw [zgt] at this;omega
 have hx:l[k]?=some l[k]:=List.getElem?_eq_getElem (by omega)
 have hg:=prs_get hx
 have h0:=hc _ _ hg.1
 have h1:=hc _ _ hg.2
 have hz:=prs_get (k:=0) (List.getElem?_eq_getElem (l:=l) (by omega))
 rw [Nat.zero_mul] at hz
 have hs:=zcc (hc _ _ hz.1)
 rw [hs] at h0 h1
 rw [zL] at h0 h1
 exact⟨ad.block,ad.off,l[k],by rw [eA,hs],hl,hb,hx,h0,by rw [Nat.add_assoc];exact h1⟩
theorem info_pr:(Tryz.prog.info? 149).map (fun i=>(i.zero,i.size,i.bytes))=some (some (.agg #[.int .i64 0,.int .i64 0]),2,16):=by kernel_rfl
def RetFind (l:List (Nat × Nat)) (x y:Nat) (w:World) (e:Ending) (w':World):Prop:=∃ r:Int,e=.returned (.int .i64 r)∧(r<0↔(x,y)∉l)∧Ext w w'
theorem spec_l5Find {w:World} {lo hi n c x y:Nat} {A:Option Addr} {l:List (Nat × Nat)}(h:Reads w lo hi 2 A n (prs l)) :
  Calls Tryz.prog 130 #[.slice A n c,.agg #[.int .i64 x,.int .i64 y]] w (RetFind l x y w):=by
 have hn:=h.len
 have hl:l.length=n:=by have:=h.length;rw [zgt] at this;omega
 have Hl:=hide hl
 have HR:=hide (fun W (hW:Ext w W)=>h.ext hW)
 clear hl h
 have hx0:Ext w (w.alloc (.cells #[.int .i64 x,.int .i64 y] 149)):=(Ext.refl _).alloc _
 have b0:=Blk.new w 149 #[.int .i64 x,.int .i64 y]
 go_enter Tryz.func130,Tryz.ntmps130
 go_upto_region 1 with fail
 generalize w.alloc (.cells #[.int .i64 x,.int .i64 y] 149)=w0 at *
 have CB:=b0.cells
 go_wp2_with fail
 go_loopw [5] (fun iv wr=>∃ i:Nat,iv=.int .i64 i∧i≤n∧Hid (∀ j,j<i→l[j]?≠some (x,y))∧Ext w0 wr) (fun iv _=>n - (intOf iv).toNat)
 case atStart=>exact⟨0,rfl,Nat.zero_le _,hide (fun j h=>by omega),Ext.refl _⟩
 case round =>
  obtain⟨i,rfl,hi,hdone,hx⟩:=hrel
  by_cases hlt:i<n
  ·have hlt':(i:Int)<(n:Int):=by omega
   obtain⟨b,o,p,rfl,_,_,hp,c0,c1⟩:=(HR.out wr (hx0.trans hx)).pr hlt
   have CBr:∀ W,Ext wr W→∀ q,W.cell? ⟨w.heap.size,q,none⟩=#[Value.int .i64 x,.int .i64 y][q]?:=fun W hW=>CB W (hx.trans hW)
   have K0:∀ W,Ext wr W→W.cell? ⟨b,o+i*2,none⟩=some (.int .i64 (p.1:Nat)):=fun W hW=>hW.cell_some c0
   have K1:∀ W,Ext wr W→W.cell? ⟨b,o+i*2+1,none⟩=some (.int .i64 (p.2:Nat)):=fun W hW=>hW.cell_some c1
   have hww:=Ext.refl wr
   have hwd:=hww.drew
   obtain⟨p1,p2⟩:=p
   dsimp only at c0 c1 K0 K1
   by_cases he:p1=x
   ·subst he
    by_cases he2:p2=y
    ·subst he2
     have hin:=hide (show (p1,p2)∈l from List.mem_of_getElem? hp.out)
     clear hp
     go_wp2_with fail
     refine uR (fun X=>Ext wr X) [] (OrdU.of [0,1,2,3,4,5,6,7,8,9,10,11,12,13,14,15,16,17]) ?_
     refine uQ ?_
     refine zf ?_
     go_wp2_with fail
     go_ret
     exact⟨_,rfl,⟨fun h=>by omega,fun h=>absurd hin.out h⟩,(hx0.trans hx).drew⟩
    ·have hne:((p2:Int)==(y:Int))=false:=by simp;omega
     have Hne:=hide he2
     clear he2
     go_wp2_with fail
     refine uR (fun X=>Ext wr X) [] (OrdU.of [0,1,2,3,4,5,6,7,8,9,10,11,12,13,14,15,16,17]) ?_
     refine uQ ?_
     refine zf ?_
     go_wp2_with fail
     go_roundw
     case rel=>exact⟨i+1,by go_num,by omega,hide (fun j hj=>by
      rcases Nat.lt_or_eq_of_le (Nat.le_of_lt_succ hj) with h1|rfl
      ·exact hdone.out j h1
      ·rw [hp.out];intro h;exact Hne.out (Prod.mk.inj (Option.some.inj h)).2),hx.drew⟩
     case measure=>simp [intOf];omega
   ·have hne:((p1:Int)==(x:Int))=false:=by simp;omega
    have Hne:=hide he
    clear he
    go_wp2_with fail
    refine uR (fun X=>Ext wr X) [] (OrdU.of [0,1,2,3,4,5,6,7,8,9,10,11,12,13,14,15,16,17]) ?_
    refine uQ ?_
    refine zf ?_
    go_wp2_with fail
    go_roundw
    case rel=>exact⟨i+1,by go_num,by omega,hide (fun j hj=>by
     rcases Nat.lt_or_eq_of_le (Nat.le_of_lt_succ hj) with h1|rfl
     ·exact hdone.out j h1
     ·rw [hp.out];intro h;exact Hne.out (Prod.mk.inj (Option.some.inj h)).1),hx.drew⟩
    case measure=>simp [intOf];omega
  ·obtain rfl:i=n:=by omega
   have hno:=hide (show (x,y)∉l by
    intro hx
    obtain⟨j,hj⟩:=List.getElem?_of_mem hx
    exact hdone.out j (by have:=(List.getElem?_eq_some_iff.1 hj).1;have:=Hl.out;omega) hj)
   go_wp2_with fail
   go_ret
   exact⟨_,rfl,⟨fun _=>hno.out,fun _=>by omega⟩,hx0.trans hx⟩
theorem dw_back {s t:Sys} {p q:Nat}(hp:p≤16)(hf:Few p s.edges)(hg:Few q t.edges)(hq:1≤q):∀ (n:Nat) (v:List Nat),v.length=n→∀ x,Goes (dW s.edges t.edges (2 ^ q)) [1] v x →
  (runB s.edges 1 v).testBit (x / 2 ^ q)=true∧x % 2 ^ q=runB t.edges 1 v:=by
 intro n
 induction n with
 |zero =>
  intro v hl x h
  obtain rfl:=List.eq_nil_of_length_eq_zero hl
  have h0:=h.inv_nil
  simp only [List.mem_singleton] at h0
  subst h0
  obtain⟨h1,h2⟩:=node_one hq
  rw [h1,h2]
  exact⟨by show Nat.testBit 1 0=true;decide,rfl⟩
 |succ n ih =>
  intro v hl x h
  rcases zan v with rfl|⟨w,l,rfl⟩
  ·simp at hl
  obtain⟨m,h1,h2⟩:=h.inv
  obtain⟨h3,h4⟩:=ih w (by simpa using hl) m h1
  obtain⟨h5,h6⟩:=(dW_mem hp hf hg).1 h2
  rw [zaT,zaT]
  refine⟨?_,by rw [h6,h4]⟩
  obtain⟨e,he,e1,e2,e3⟩:=h5
  exact (zco _ _ _ _).2 ⟨e,he,⟨e2,by rw [e1,Int.toNat_natCast];exact h3⟩,by rw [e3,Int.toNat_natCast]⟩
theorem out_iff {s t:Sys}(h:zcj s t=true):outB s t=true↔∃ v,(∀ l∈v,l∈letters s.al.toNat 6)∧runB s.edges 1 v≠0∧runB t.edges 1 v=0:=by
 obtain⟨v1,v2,he⟩:=zcG h
 obtain⟨p,hp,hp1,hp2,hf⟩:=zax v1
 obtain⟨q,hq,hq1,hq2,hg⟩:=zax v2
 have hq':t.st.toNat=q:=by rw [hq];rfl
 unfold outB
 rw [h,Bool.true_and,@decide_eq_true_iff _ (Classical.propDecidable _),hq']
 constructor
 ·intro hn
  apply Classical.byContradiction
  intro hno
  refine hn (fun v hv x hx=>?_)
  obtain⟨h3,h4⟩:=dw_back hp2 hf hg hq1 _ v rfl x hx
  have h5:runB s.edges 1 v≠0:=fun e=>by rw [e] at h3;simp at h3
  have h6:runB t.edges 1 v≠0:=fun e=>hno ⟨v,hv,h5,e⟩
  rw [← h4] at h6
  simpa using h6
 ·rintro ⟨v,hv,h1,h2⟩ hl
  obtain⟨i,hi⟩:=Nat.exists_testBit_of_ne_zero h1
  have hb:∀ l∈v,s.al.toNat.testBit l=true:=fun l hl=>(zB.1 (hv l hl)).2
  obtain⟨x,h3,-,h5⟩:=dw_goes hp2 hf hg hq1 _ v rfl hb i ((zfJ hf hp2 _ v rfl hb i).1 hi)
  have h6:(x % 2 ^ q==0)=false:=hl v hv x h3
  rw [h5,h2] at h6
  cases h6
structure FtI (s t:Sys) (LL:List Nat) (ps:List (Nat × Nat)) (i k:Nat):Prop where
 first:(1,1)∈ps
 pos:1≤ps.length
 sound:∀ p∈ps,∃ v,(∀ l∈v,l∈LL)∧p=(runB s.edges 1 v,runB t.edges 1 v)∧p.1≠0
 nd:ps.Nodup
 done:∀ (j:Nat) (p:Nat × Nat),j<i→ps[j]?=some p→p.2≠0∧∀ l∈LL,zad s.edges p.1 l≠0→(zad s.edges p.1 l,zad t.edges p.2 l)∈ps
 part:∀ (p:Nat × Nat),ps[i]?=some p→∀ (k' l:Nat),k'<k→LL[k']?=some l→zad s.edges p.1 l≠0→(zad s.edges p.1 l,zad t.edges p.2 l)∈ps
section
variable {s t:Sys} {LL:List Nat} {ps:List (Nat × Nat)} {i k:Nat}
theorem FtI.start:FtI s t LL [(1,1)] 0 0:=
 ⟨by simp,by simp,fun p hp=>⟨[],by simp,by simp at hp;exact hp,by simp at hp;rw [hp];decide⟩,by simp,fun j p h=>by omega,fun p hp k' l h=>by omega⟩
theorem FtI.grow {x:Nat × Nat}(h:FtI s t LL ps i k)(hi:i<ps.length)(hn:x∉ps)(hx:∃ v,(∀ l∈v,l∈LL)∧x=(runB s.edges 1 v,runB t.edges 1 v)∧x.1≠0):FtI s t LL (ps++[x]) i k:=by
 refine⟨by simp [h.first],by simp,fun p hp=>?_,?_,fun j p hj hp=>?_,fun p hp k' l hk hl hne=>?_⟩
 ·rcases List.mem_append.1 hp with hp|hp
  ·exact h.sound p hp
  ·obtain rfl:=List.mem_singleton.1 hp;exact hx
 ·rw [List.nodup_append]
  exact⟨h.nd,by simp,fun a ha b hb e=>by obtain rfl:=List.mem_singleton.1 hb;exact hn (e ▸ ha)⟩
 ·rw [List.getElem?_append_left (by omega)] at hp
  obtain⟨h1,h2⟩:=h.done j p hj hp
  exact⟨h1,fun l hl hne=>List.mem_append_left _ (h2 l hl hne)⟩
 ·rw [List.getElem?_append_left hi] at hp
  exact List.mem_append_left _ (h.part p hp k' l hk hl hne)
theorem FtI.step {l:Nat} {p:Nat × Nat}(h:FtI s t LL ps i k)(hp:ps[i]?=some p)(hl:LL[k]?=some l)(hm:zad s.edges p.1 l≠0→(zad s.edges p.1 l,zad t.edges p.2 l)∈ps):FtI s t LL ps i (k+1):=
 ⟨h.first,h.pos,h.sound,h.nd,h.done,fun p' hp' k' l' hk hl' hne=>by
  rw [hp] at hp'
  obtain rfl:=Option.some.inj hp'
  rcases Nat.lt_or_eq_of_le (Nat.le_of_lt_succ hk) with h1|rfl
  ·exact h.part p hp k' l' h1 hl' hne
  ·rw [hl] at hl'
   obtain rfl:=Option.some.inj hl'
   exact hm hne⟩
theorem FtI.next {p:Nat × Nat}(h:FtI s t LL ps i k)(hk:LL.length≤k)(hp:ps[i]?=some p)(hne:p.2≠0):FtI s t LL ps (i+1) 0:=
 ⟨h.first,h.pos,h.sound,h.nd,fun j p' hj hp'=>by
  rcases Nat.lt_or_eq_of_le (Nat.le_of_lt_succ hj) with h1|rfl
  ·exact h.done j p' h1 hp'
  ·rw [hp] at hp'
   obtain rfl:=Option.some.inj hp'
   refine⟨hne,fun l hl=>?_⟩
   obtain⟨k',hk'⟩:=List.getElem?_of_mem hl
   exact h.part p hp k' l (by have:=(List.getElem?_eq_some_iff.1 hk').1;omega) hk',fun p hp k' l h=>by omega⟩
theorem FtI.lead {l:Nat} {p:Nat × Nat}(h:FtI s t LL ps i k)(hp:p∈ps)(hl:l∈LL)(hne:zad s.edges p.1 l≠0):∃ v,(∀ l∈v,l∈LL)∧(zad s.edges p.1 l,zad t.edges p.2 l)=(runB s.edges 1 v,runB t.edges 1 v)∧zad s.edges p.1 l≠0:=by
 obtain⟨v,h1,h2,-⟩:=h.sound p hp
 refine⟨v++[l],fun x hx=>?_,by rw [zaT,zaT,h2],hne⟩
 rcases List.mem_append.1 hx with hx|hx
 ·exact h1 x hx
 ·obtain rfl:=List.mem_singleton.1 hx;exact hl
theorem FtI.few {p q:Nat}(h:FtI s t LL ps i k)(hp:p≤16)(hf:Few p s.edges)(hq:q≤16)(hg:Few q t.edges):ps.length≤4294967296:=by
 have h1:(ps.map fun x=>x.1*65536+x.2).Nodup:=by
  rw [List.nodup_iff_pairwise_ne,List.pairwise_map]
  refine List.Pairwise.imp_of_mem ?_ (List.nodup_iff_pairwise_ne.1 h.nd)
  intro a b ha hb hne e
  obtain⟨v,-,h2,-⟩:=h.sound a ha
  obtain⟨u,-,h3,-⟩:=h.sound b hb
  have a1:a.2<65536:=by rw [h2];exact zbN hg hq v
  have b1:b.2<65536:=by rw [h3];exact zbN hg hq u
  have e1:a.1*65536+a.2=b.1*65536+b.2:=e
  exact hne (Prod.ext (by omega) (by omega))
 have h2:=zeh (p:=4294967296) h1 (fun x hx=>by
  obtain⟨a,ha,rfl⟩:=List.mem_map.1 hx
  obtain⟨v,-,h2,-⟩:=h.sound a ha
  have a1:a.2<65536:=by rw [h2];exact zbN hg hq v
  have a2:a.1<65536:=by rw [h2];exact zbN hf hp v
  show a.1*65536+a.2<_
  omega)
 simpa using h2
theorem FtI.yes {p:Nat × Nat}(h:FtI s t LL ps i k)(hp:p∈ps)(h0:p.2=0)(hs:zcj s t=true)(hL:LL=letters s.al.toNat 6):outB s t=true:=by
 obtain⟨v,h1,h2,h3⟩:=h.sound p hp
 refine (out_iff hs).2 ⟨v,by rw [← hL];exact h1,?_,?_⟩
 ·rw [h2] at h3;exact h3
 ·rw [h2] at h0;exact h0
theorem FtI.no (h:FtI s t LL ps i k)(hi:ps.length≤i)(hs:zcj s t=true)(hL:LL=letters s.al.toNat 6):outB s t=false:=by
 rw [← Bool.not_eq_true,out_iff hs]
 rintro ⟨v,hv,h1,h2⟩
 have key:∀ (n:Nat) (v:List Nat),v.length=n→(∀ l∈v,l∈LL)→runB s.edges 1 v≠0→(runB s.edges 1 v,runB t.edges 1 v)∈ps:=by
  intro n
  induction n with
  |zero =>
   intro v hl _ _
   obtain rfl:=List.eq_nil_of_length_eq_zero hl
   exact h.first
  |succ n ih =>
   intro v hl hv hne
   rcases zan v with rfl|⟨w,l,rfl⟩
   ·simp at hl
   rw [zaT] at hne
   have hw:runB s.edges 1 w≠0:=fun e=>hne (by rw [e];exact runB_zero s.edges [l])
   have h3:=ih w (by simpa using hl) (fun a ha=>hv a (by simp [ha])) hw
   obtain⟨j,hj⟩:=List.getElem?_of_mem h3
   have hjl:=(List.getElem?_eq_some_iff.1 hj).1
   have h4:=(h.done j _ (by omega) hj).2 l (hv l (by simp)) hne
   rw [zaT,zaT]
   exact h4
 have h3:=key _ v rfl (by rw [hL];exact hv) h1
 obtain⟨j,hj⟩:=List.getElem?_of_mem h3
 have hjl:=(List.getElem?_eq_some_iff.1 hj).1
 exact (h.done j _ (by omega) hj).1 h2
end
section
variable {lo hi lo' hi':Nat} {A:Option Addr} {n c:Nat} {B:Option Addr} {m d:Nat} {s t:Sys} {w:World}
theorem yM13b2 {P:Prop}(h:P:=by
 have kG:=bG.cell
 have fG:=bG.frozen
 (refine zg rfl rfl rfl rfl (fun K hK=>?_))
 go_simp
 refine hK.out _ _ ?_
 refine pT ?_
 refine zf ?_
 have hf:=(Frm.setCell w32 G 0 (.int .i64 (x1:Nat))).trans (Frm.setCell _ G 1 (.int .i64 (x2:Nat)))
 have bW:=hide (show Blk ((w32.setCell ⟨G,0,none⟩ (.int .i64 (x1:Nat))).setCell ⟨G,1,none⟩ (.int .i64 (x2:Nat))) G 149 #[.int .i64 (x1:Nat),.int .i64 (x2:Nat)] by simpa using (bG.set_ 0 (.int .i64 (x1:Nat))).set_ 1 (.int .i64 (x2:Nat)))
 have hW:=hide (hcu.frm hf (fun k hk e=>by omega))
 clear hf kG fG bG hcu
 go_wp2_with fail
 go_meet
 exact⟨G,rfl,bW.out,hW.out⟩
 ):P:=h
theorem yM13a3 {P:Prop}(h:P:=by
 (refine zg rfl rfl rfl rfl (fun K hK=>?_))
 go_simp
 refine (HTs'.out _ hcu).mono ?_
 rintro e w32 ⟨rfl,hxn⟩
 replace hcu:=hcu.trans hxn
 replace bG:=bG.ext hxn
 clear hxn
 refine hK.out _ _ ?_
 refine pT ?_
 refine uQ ?_
 exact yM13b2
 ):P:=h
set_option maxRecDepth 100000 in
theorem zda (h:zO w lo hi A n s)(h':zO w lo' hi' B m t) :
  Calls Tryz.prog 71 #[.agg #[.int .i64 s.al,.int .i64 s.st,.slice A n c],.agg #[.int .i64 t.al,.int .i64 t.st,.slice B m d]] w (RetOut w s t):=by
 have HS:=hide (fun W (hW:Ext w W)=>h.ext hW)
 have HT:=hide (fun W (hW:Ext w W)=>h'.ext hW)
 clear h h'
 have hx0:Ext w ((w.alloc (.cells #[.int .i64 s.al,.int .i64 s.st,.slice A n c] 39)).alloc (.cells #[.int .i64 t.al,.int .i64 t.st,.slice B m d] 39)):=((Ext.refl _).alloc _).alloc _
 obtain⟨b1,b2⟩:=zJ (Ext.refl ((w.alloc (.cells #[.int .i64 s.al,.int .i64 s.st,.slice A n c] 39)).alloc (.cells #[.int .i64 t.al,.int .i64 t.st,.slice B m d] 39)))
 cases hsm:zcj s t
 ·have Hsm:=hide hsm
  have hfin:=hide (show outB s t=false by unfold outB;rw [hsm];rfl)
  clear hsm
  go_enter Tryz.func71,Tryz.ntmps71
  go_upto_region 1 with fail
  generalize (w.alloc (.cells #[.int .i64 s.al,.int .i64 s.st,.slice A n c] 39)).alloc (.cells #[.int .i64 t.al,.int .i64 t.st,.slice B m d] 39)=w0 at *
  have c1:=b1.cell
  have c2:=b2.cell
  go_wp2_with (first
   |(go_at_call 72;refine (zbH (HS.out _ hx0) (HT.out _ hx0)).mono ?_;rw [Hsm.out];rintro e w1 ⟨rfl,hx1⟩))
  go_ret2
  exact⟨⟨#[]⟩,by rw [hfin.out];rfl,hx0.trans hx1⟩
 ·have Hsm:=hide hsm
  obtain⟨v1,v2,he⟩:=zcG hsm
  obtain⟨p,hp,hp1,hp2,hf⟩:=zax v1
  obtain⟨q,hq,hq1,hq2,hg⟩:=zax v2
  obtain⟨h0,h63⟩:=zS v1
  obtain⟨al,hal⟩:∃ al:Nat,Hid (s.al=al):=⟨s.al.toNat,by unfold Hid;omega⟩
  have hal64:al<64:=by have:=hal.out;omega
  have HLL:=hide (show letters al 6=letters s.al.toNat 6 by rw [hal.out,Int.toNat_natCast])
  have Hf:=hide hf
  have Hg:=hide hg
  clear hsm v1 v2 he hp hq h0 h63 hf hg
  go_enter Tryz.func71,Tryz.ntmps71
  go_upto_region 1 with fail
  generalize (w.alloc (.cells #[.int .i64 s.al,.int .i64 s.st,.slice A n c] 39)).alloc (.cells #[.int .i64 t.al,.int .i64 t.st,.slice B m d] 39)=w0 at *
  have CS:=b1.cells
  have CT:=b2.cells
  have hww0:=Ext.refl w0
  go_upto_region 4 with (first
   |(go_at_call 72;refine (zbH (HS.out _ hx0) (HT.out _ hx0)).mono ?_;rw [Hsm.out];rintro e w1 ⟨rfl,hx1⟩)
   |(go_at_call 98;rw [hal.out];refine (zI al (by unfold Sm;omega) _).mono ?_;rintro e w2 ⟨AL,cL,rfl,hownL,hx2⟩))
  have hx12:=hx0.trans (hx1.trans hx2)
  have CS2:∀ W,Ext w2 W→∀ j,W.cell? ⟨w.heap.size,j,none⟩=#[Value.int .i64 s.al,.int .i64 s.st,.slice A n c][j]?:=fun W hW=>CS W (hx1.trans (hx2.trans hW))
  have CT2:∀ W,Ext w2 W→∀ j,W.cell? ⟨w.heap.size+1,j,none⟩=#[Value.int .i64 t.al,.int .i64 t.st,.slice B m d][j]?:=fun W hW=>CT W (hx1.trans (hx2.trans hW))
  have HSs:=hide (fun W (hW:Ext w2 W) (x:Nat) (l:Int) (hx:x<65536)=>zcn (c:=c) (l:=l) (HS.out W (hx12.trans hW)) Hf.out hp2 (by unfold Sm;omega:Sm x))
  have HTs:=hide (fun W (hW:Ext w2 W) (x:Nat) (l:Int) (hx:x<65536)=>zcn (c:=d) (l:=l) (HT.out W (hx12.trans hW)) Hg.out hq2 (by unfold Sm;omega:Sm x))
  have hL6:=hide (fun l (hl:l∈letters al 6)=>(zB.1 hl).1)
  have hLlen:=hide (show (letters al 6).length≤6 from zeh (p:=6) ((zex al 6).imp fun h=>Nat.ne_of_lt h) (fun x hx=>(zB.1 hx).1))
  generalize letters al 6=LL at *
  have hLl:=hLlen.out
  have o7:=zd (World.ownsRow_lit (base:=w2.heap.size) (e:=149) (size:=2) w2 #[.int .i64 1,.int .i64 1] 1 (Nat.le_refl _) (by decide) rfl) ((Ext.refl _).alloc (.cells #[.string ⟨#[]⟩] 9))
  have o8:=World.ownsRow_lit (base:=w2.heap.size) (e:=9) (size:=1) (w2.alloc (.cells #[.int .i64 1,.int .i64 1] 149)) #[.string ⟨#[]⟩] 1 (by simp) (by decide) rfl
  have hx3:=((Ext.refl w2).alloc (.cells #[.int .i64 1,.int .i64 1] 149)).alloc (.cells #[.string ⟨#[]⟩] 9)
  clear hww0 CS CT b1 b2
  go_wp2_with fail
  go_loopw [7,8,9] (fun v7 v8 iv wr=>∃ (i:Nat) (ps:List (Nat × Nat)) (ws:List ByteArray),iv=.int .i64 i∧i≤ps.length∧ps.length≤4294967296∧ws.length=ps.length∧wr.ownsRow w2.heap.size 149 2 v7 ps.length (prs ps)∧wr.ownsRow w2.heap.size 9 1 v8 ps.length (strs ws)∧Hid (FtI s t LL ps i 0)∧Hid (∀ (j:Nat) (x:ByteArray),ws[j]?=some x→x.size≤j)∧Ext w2 wr) (fun _ _ iv _=>4294967297 - (intOf iv).toNat)
  case atStart=>exact⟨0,[(1,1)],[⟨#[]⟩],rfl,by simp,by simp,rfl,by simpa [prs] using o7,by simpa [strs] using o8,hide FtI.start,hide (fun j x hx=>by
   cases j with
   |zero=>simp at hx;subst hx;exact Nat.le_refl _
   |succ j=>simp at hx),hx3⟩
  case round =>
   clear o7 o8 hx3
   obtain⟨i,ps,ws,rfl,hi,hps,hws,o7,o8,hI,hsz,hxr⟩:=hrel
   by_cases hlt:i<ps.length
   case neg =>
    have hfin:=hide (hI.out.no (by omega) Hsm.out HLL.out)
    obtain⟨A7,c7,rfl⟩:=ze o7
    obtain⟨A8,c8,rfl⟩:=ze o8
    obtain rfl:i=ps.length:=by omega
    go_wp2_with fail
    go_ret2
    exact⟨⟨#[]⟩,by rw [hfin.out];rfl,hx12.trans hxr⟩
   case pos =>
   have hlt':(i:Int)<(ps.length:Int):=by omega
   obtain⟨A7,c7,rfl⟩:=ze o7
   obtain⟨A8,c8,rfl⟩:=ze o8
   obtain⟨b7,f7,pr,rfl,-,-,hp,c0,c1⟩:=(Reads.of_own o7).pr hlt
   obtain⟨p1,p2⟩:=pr
   dsimp only at c0 c1
   have hpl:p1<65536∧p2<65536:=by
    obtain⟨v,-,h2,-⟩:=hI.out.sound _ (List.mem_of_getElem? hp.out)
    obtain⟨e1,e2⟩:=Prod.mk.inj h2
    rw [e1,e2]
    exact⟨zbN Hf.out hp2 v,zbN Hg.out hq2 v⟩
   by_cases h0:p2=0
   ·have hfin:=hide (hI.out.yes (List.mem_of_getElem? hp.out) h0 Hsm.out HLL.out)
    subst h0
    obtain⟨a8,y,rfl,-,-,hy,cy⟩:=(Reads.of_own o8).str hlt
    go_wp2_with fail
    go_ret2
    exact⟨y,by rw [hfin.out];rfl,hx12.trans hxr⟩
   ·have hne0:((p2:Int)==0)=false:=by simp;omega
    have H0:=hide h0
    clear h0
    go_wp2_with fail
    go_loopw [7,8,10] (fun v7 v8 iv wr=>∃ (k:Nat) (ps:List (Nat × Nat)) (ws:List ByteArray),iv=.int .i64 k∧k≤LL.length∧i<ps.length∧ps.length≤4294967296∧ws.length=ps.length∧wr.ownsRow w2.heap.size 149 2 v7 ps.length (prs ps)∧wr.ownsRow w2.heap.size 9 1 v8 ps.length (strs ws)∧Hid (ps[i]?=some (p1,p2))∧Hid (FtI s t LL ps i k)∧Hid (∀ (j:Nat) (x:ByteArray),ws[j]?=some x→x.size≤j)∧Ext w2 wr) (fun _ _ iv _=>LL.length - (intOf iv).toNat)
    case atStart=>exact⟨0,ps,ws,rfl,Nat.zero_le _,hlt,hps,hws,o7,o8,hp,hI,hsz,hxr⟩
    case round =>
     clear o7 o8 hp hI hsz hxr c0 c1 hlt hlt' hps hws hi
     obtain⟨k,ps,ws,rfl,hk,hlt,hps,hws,o7,o8,hp,hI,hsz,hxr⟩:=hrel
     obtain⟨A7,c7,rfl⟩:=ze o7
     obtain⟨A8,c8,rfl⟩:=ze o8
     by_cases hkl:k<LL.length
     case neg =>
      have hnx:=hide (hI.out.next (by omega) hp.out H0.out)
      obtain rfl:k=LL.length:=by omega
      go_wp2_with fail
      go_roundw
      case rel=>exact⟨i+1,ps,ws,by go_num,by omega,hps,hws,o7,o8,hnx,hsz,hxr⟩
      case measure=>simp [intOf];omega
     case pos =>
     have hlt':(i:Int)<(ps.length:Int):=by omega
     have hkl':(k:Int)<(LL.length:Int):=by omega
     obtain⟨l,hl⟩:∃ l,LL[k]?=some l:=⟨_,List.getElem?_eq_getElem hkl⟩
     have Hl:=hide hl
     have hl6:=hL6.out l (List.mem_of_getElem? hl)
     obtain⟨gL,rfl,hgL,-⟩:=zag hownL (by omega)
     have cL0:=zci (zd hownL hxr) hkl
     rw [List.getD_eq_getElem?_getD,hl,Option.getD_some] at cL0
     obtain⟨b7,f7,pr,rfl,-,-,hp',c0,c1⟩:=(Reads.of_own o7).pr hlt
     obtain rfl:(p1,p2)=pr:=Option.some.inj (hp.out.symm.trans hp'.out)
     dsimp only at c0 c1
     have K0:∀ W,Ext wr W→W.cell? ⟨b7,f7+i*2,none⟩=some (.int .i64 (p1:Nat)):=fun W hW=>hW.cell_some c0
     have K1:∀ W,Ext wr W→W.cell? ⟨b7,f7+i*2+1,none⟩=some (.int .i64 (p2:Nat)):=fun W hW=>hW.cell_some c1
     have KL:∀ W,Ext wr W→W.cell? ⟨gL,k,none⟩=some (.int .i64 (l:Nat)):=fun W hW=>hW.cell_some cL0
     have CSr:∀ W,Ext wr W→∀ j,W.cell? ⟨w.heap.size,j,none⟩=#[Value.int .i64 s.al,.int .i64 s.st,.slice A n c][j]?:=fun W hW=>CS2 W (hxr.trans hW)
     have CTr:∀ W,Ext wr W→∀ j,W.cell? ⟨w.heap.size+1,j,none⟩=#[Value.int .i64 t.al,.int .i64 t.st,.slice B m d][j]?:=fun W hW=>CT2 W (hxr.trans hW)
     have hst:=hide (hI.out.step hp.out hl)
     have hgr:=hide (fun (hn:(zad s.edges p1 (l:Int),zad t.edges p2 (l:Int))∉ps) (hz:zad s.edges p1 (l:Int)≠0)=>(hI.out.grow hlt hn (hI.out.lead (List.mem_of_getElem? hp.out) (List.mem_of_getElem? hl) hz)).step (p:=(p1,p2)) (by rw [List.getElem?_append_left hlt];exact hp.out) hl (fun _=>List.mem_append_right _ (by simp)))
     have HSs':=hide (fun W (hW:Ext wr W)=>HSs.out W (hxr.trans hW) p1 (l:Int) hpl.1)
     have HTs':=hide (fun W (hW:Ext wr W)=>HTs.out W (hxr.trans hW) p2 (l:Int) hpl.2)
     have hx1l:zad s.edges p1 (l:Int)<65536:=Nat.lt_of_lt_of_le (zcx Hf.out p1 (l:Int)) (show 2 ^ p≤65536 from Nat.pow_le_pow_right (n:=2) (i:=p) (j:=16) (by omega) hp2)
     have hx2l:zad t.edges p2 (l:Int)<65536:=Nat.lt_of_lt_of_le (zcx Hg.out p2 (l:Int)) (show 2 ^ q≤65536 from Nat.pow_le_pow_right (n:=2) (i:=q) (j:=16) (by omega) hq2)
     dsimp only at hst hgr
     generalize zad s.edges p1 (l:Int)=x1 at *
     generalize zad t.edges p2 (l:Int)=x2 at *
     have hww:=Ext.refl wr
     have hcu:=hww.drew
     clear hl c0 c1 cL0 hp'
     go_upto_region 14 with fail
     go_cut [11] (fun v wx=>∃ G:Nat,v=.pointer (some ⟨G,0,none⟩)∧Blk wx G 149 #[.int .i64 (x1:Nat),.int .i64 (x2:Nat)]∧Ext wr wx)
     case first =>
      refine uR (fun X=>Ext wr X) [21,24] (OrdU.app [0,1,2,3,4,5,6,7,8,9,11,12,13,14,15,16,17,18,19,20] (OrdU.two 10 (OrdU.two 21 (OrdU.of [22,23,24]) 23 (OrdU.of [21,22,24])) 23 (OrdU.of [10,21,22,24]))) ?_
      refine uQ ?_
      generalize wr.drew=wd at *
      refine zA rfl rfl rfl rfl (fun K hK=>?_) (fun K hK=>?_)
      ·go_simp
       refine (HSs'.out _ hcu).mono ?_
       rintro e w30 ⟨rfl,hxn⟩
       replace hcu:=hcu.trans hxn
       clear hxn
       refine hK.out _ _ hcu ?_
       refine pT ?_
       refine zA rfl rfl rfl rfl (fun K hK=>?_) (fun K hK=>?_)
       ·go_simp
        refine (HTs'.out _ hcu).mono ?_
        rintro e w31 ⟨rfl,hxn⟩
        replace hcu:=hcu.trans hxn
        clear hxn
        refine hK.out _ _ hcu ?_
        refine pT ?_
        refine uQ ?_
        (refine za rfl rfl rfl (fun K hK=>?_);go_simp)
        have hxn:=(Ext.refl w31).alloc (.cells #[.int .i64 0,.int .i64 0] 149)
        have bG:=Blk.new w31 149 #[.int .i64 0,.int .i64 0]
        have hGs:=hcu.size
        replace hcu:=hcu.trans hxn
        clear hxn
        refine hK.out _ _ hcu ?_
        refine pT ?_
        generalize w31.alloc (.cells #[.int .i64 0,.int .i64 0] 149)=w32 at *
        generalize w31.heap.size=G at *
        exact yM13b2
       ·go_simp
        have hxn:=(Ext.refl w30).alloc (.cells #[.int .i64 0,.int .i64 0] 149)
        have bG:=Blk.new w30 149 #[.int .i64 0,.int .i64 0]
        have hGs:=hcu.size
        replace hcu:=hcu.trans hxn
        clear hxn
        refine hK.out _ _ hcu ?_
        refine pT ?_
        generalize w30.alloc (.cells #[.int .i64 0,.int .i64 0] 149)=w31 at *
        generalize w30.heap.size=G at *
        exact yM13a3
      ·go_simp
       have hxn:=(Ext.refl wd).alloc (.cells #[.int .i64 0,.int .i64 0] 149)
       have bG:=Blk.new wd 149 #[.int .i64 0,.int .i64 0]
       have hGs:=hcu.size
       replace hcu:=hcu.trans hxn
       clear hxn
       refine hK.out _ _ hcu ?_
       refine pT ?_
       generalize wd.alloc (.cells #[.int .i64 0,.int .i64 0] 149)=w30 at *
       generalize wd.heap.size=G at *
       (refine za rfl rfl rfl (fun K hK=>?_);go_simp)
       refine (HSs'.out _ hcu).mono ?_
       rintro e w31 ⟨rfl,hxn⟩
       replace hcu:=hcu.trans hxn
       replace bG:=bG.ext hxn
       clear hxn
       refine hK.out _ _ hcu ?_
       refine pT ?_
       exact yM13a3
     case rest =>
     obtain⟨G,rfl,bG,hxc⟩:=hcut
     have kG:=bG.cell
     have hlG:=bG.lt
     by_cases hz:x1=0
     ·subst hz
      have hI2:=hide (hst.out (fun h=>absurd rfl h))
      go_wp2_with fail
      go_roundw
      case rel=>exact⟨k+1,ps,ws,by go_num,by omega,hlt,hps,hws,zd o7 hxc,zd o8 hxc,hp,hI2,hsz,hxr.trans hxc⟩
      case measure=>simp [intOf];omega
     have hz1:((x1:Int) != 0)=true:=by simp;omega
     have Hz:=hide hz
     clear hz
     go_upto_if 75 with (first
      |(go_at_call 130;refine (spec_l5Find (Reads.of_own (zd o7 hxc))).mono ?_;rintro e w5 ⟨r,rfl,hr',hx5⟩;have hr:=hide hr';clear hr'))
     have hx35:=hxc.trans hx5
     have bG5:=bG.ext hx5
     have k5:=bG5.cell
     clear kG bG
     by_cases hr0:r<0
     case neg =>
      have hI2:=hide (hst.out (fun _=>Classical.not_not.1 (fun hn=>hr0 (hr.out.2 hn))))
      clear hr
      go_wp2_with fail
      go_roundw
      case rel=>exact⟨k+1,ps,ws,by go_num,by omega,hlt,hps,hws,zd o7 hx35,zd o8 hx35,hp,hI2,hsz,hxr.trans hx35⟩
      case measure=>simp [intOf];omega
     case pos =>
     have hnin:=hide (hr.out.1 hr0)
     have hI3:=hide (hgr.out hnin.out Hz.out)
     have hps2:ps.length+1≤4294967296:=by have:=hI3.out.few hp2 Hf.out hq2 Hg.out;simpa using this
     have hP3:=hide (show (ps++[(x1,x2)])[i]?=some (p1,p2) by rw [List.getElem?_append_left hlt];exact hp.out)
     have ho7:=zd o7 hx35
     have ho8:=zd o8 hx35
     have hx25:=hxr.trans hx35
     have hr1:=hr0
     clear hr hst hgr HSs' HTs' o7 o8
     go_upto_region 16 with fail
     clear hr0
     go_upto_region 17 with (at_builtin;refine zN w2 w5 rfl _ _ _ rfl 149 _ 2 16 Tryz.underlying150 info_pr rfl (by decide) (.slice (some ⟨b7,f7,none⟩) ps.length c7) _ _ _ _ rfl rfl hx25 ho7 rfl (by simp [Value.oneCell']) (by unfold maxLen;omega) (by omega) ?_;intro v6 w6 hx6 hown6 hg6 hat6)
     have o8':=zb ho8 (Frm.of_grown hg6) (fun b hb hS=>zaV ho8 ho7 (by decide) hb hS)
     obtain⟨a8,y,rfl,-,-,hy,cy⟩:=(Reads.of_own o8').str hlt
     have cL6:=zci (zd hownL hx6) hkl
     rw [List.getD_eq_getElem?_getD,Hl.out,Option.getD_some] at cL6
     have CY:∀ W,Ext w6 W→W.cell? (a8.add i)=some (.string y):=fun W hW=>hW.cell_some cy
     have KL6:∀ W,Ext w6 W→W.cell? ⟨gL,k,none⟩=some (.int .i64 (l:Nat)):=fun W hW=>hW.cell_some cL6
     have hys:=hsz.out i y hy.out
     have hss:¬ 9223372036854775807<y.size+(letS l).size:=by rw [zcg];omega
     have hsy:=hide (show (y++letS l).size≤ps.length by rw [ByteArray.size_append,zcg];omega)
     have hww6:=Ext.refl w6
     have Ho7:=hide hown6
     have Ho8:=hide o8'
     clear K0 K1 KL CSr CTr k5 bG5 cy cL6 hown6 ho7 ho8 o8' hx35 hx25 hww hcu hg6 hat6 hr1
     have HLt:=hide (fun W=>zcm (w:=W) hl6)
     generalize letS l=z at *
     go_wp2_with fail
     refine uR (fun X=>Ext w6 X) [11,12] (OrdU.of [0,1,2,3,4,5,6,7,8,9,10,11,12,13]) ?_
     refine uQ ?_
     (refine za rfl rfl rfl (fun K hK=>?_);go_simp)
     refine (HLt.out _).mono ?_
     rintro e w7 ⟨rfl,hx7⟩
     have hx67:Ext w6 w7:=hww6.drew.trans hx7
     refine hK.out _ _ hx67 ?_
     refine pT ?_
     refine uQ ?_
     (refine zg rfl rfl rfl rfl (fun K hK=>?_))
     go_simp
     refine hK.out _ _ ?_
     refine pT ?_
     (refine zg rfl rfl rfl rfl (fun K hK=>?_))
     refine zay w2 w7 _ _ _ rfl 9 _ 1 16 Tryz.underlying101 zl rfl (by decide) _ ps.length (strs ws) _ _ rfl rfl (hx6.trans hx67).size (zd Ho8.out hx67) rfl (zbu _) (by unfold maxLen;omega) (by omega) ?_
     intro g8 cap8 w8 hown8 hg8 hat8 hlt8
     refine hK.out _ _ ?_
     refine pT ?_
     refine uQ ?_
     refine zf ?_
     go_wp2_with fail
     go_roundw
     case rel =>
      have q7:=zd Ho7.out hx67
      have q8:=zd Ho8.out hx67
      refine⟨k+1,ps++[(x1,x2)],ws++[y++z],by go_num,by omega,by simp;omega,by simp;omega,by simp;omega,?_,?_,hP3,hI3,hide (fun j x hx=>?_),(hx6.trans hx67).grown hg8 (fun k hk=>(Ho8.out.lt k hk).1)⟩
      ·rw [prs_append,List.length_append]
       exact zb q7 (Frm.of_grown hg8) (fun b hb hS=>zaV q7 q8 (by decide) hb hS)
      ·rw [zfU,List.length_append]
       exact hown8
      ·rcases Nat.lt_or_ge j ws.length with h1|h1
       ·rw [List.getElem?_append_left h1] at hx
        exact hsz.out j x hx
       ·have hj:j=ws.length:=by
         rcases Nat.eq_or_lt_of_le h1 with h2|h2
         ·exact h2.symm
         ·rw [List.getElem?_eq_none (by simp;omega)] at hx;cases hx
        subst hj
        simp at hx
        subst hx
        have:=hsy.out
        omega
     case measure=>simp [intOf];omega
theorem spec_TracesWithin (h:zO w lo hi A n s)(h':zO w lo' hi' B m t) :
  Calls Tryz.prog 33 #[.agg #[.int .i64 s.al,.int .i64 s.st,.slice A n c],.agg #[.int .i64 t.al,.int .i64 t.st,.slice B m d]] w fun e w'=>e=.returned (.bool (zcq s t))∧Ext w w':=by
 have HS:=hide (fun W (hW:Ext w W)=>h.ext hW)
 have HT:=hide (fun W (hW:Ext w W)=>h'.ext hW)
 clear h h'
 obtain⟨o,ho⟩:∃ o,Hid (outB s t=o):=⟨_,rfl⟩
 have hx0:Ext w ((w.alloc (.cells #[.int .i64 s.al,.int .i64 s.st,.slice A n c] 39)).alloc (.cells #[.int .i64 t.al,.int .i64 t.st,.slice B m d] 39)):=((Ext.refl _).alloc _).alloc _
 cases h1:zcj s t
 all_goals
  have H1:=hide h1
  clear h1
  go_enter Tryz.func33,Tryz.ntmps33
  go_wp2_with fail
  refine (zda (HS.out _ hx0) (HT.out _ hx0)).mono ?_
  rintro e w1 ⟨v,rfl,hx⟩
  rw [ho.out]
  obtain⟨b1,b2⟩:=zJ hx
  have c1:=b1.cell
  have c2:=b2.cell
  have hw1:=hx0.trans hx
  go_wp2_with fail
  refine (zbH (HS.out _ hw1) (HT.out _ hw1)).mono ?_
  rw [H1.out]
  rintro e w2 ⟨rfl,hx2⟩
  go_wp2_with fail
  go_ret
  exact⟨zh (by unfold zcq;rw [H1.out,ho.out];rfl),hw1.trans hx2⟩
end
set_option maxRecDepth 100000 in
theorem spec_DrawTracesWithin {A:Option Addr} {n c:Nat} {w:World}(h:Bytes w A n)(hn:n≤9223372036854775807)(hc:n≤c)(hc2:c≤9223372036854775807) :
  Calls Tryz.prog 31 #[.slice A n c] w (RetD2 w):=by
 have hx0:Ext w ((w.alloc (.cells #[.int .i64 0,.int .i64 0,.slice none 0 0] 39)).alloc (.cells #[.int .i64 0,.int .i64 0,.slice none 0 0] 39)):=((Ext.refl _).alloc _).alloc _
 obtain⟨bz,by_⟩:=zJ (Ext.refl ((w.alloc (.cells #[.int .i64 0,.int .i64 0,.slice none 0 0] 39)).alloc (.cells #[.int .i64 0,.int .i64 0,.slice none 0 0] 39)))
 have hh:=hide (h.ext hx0)
 have hz0:=by_.lt
 clear h
 go_enter Tryz.func31,Tryz.ntmps31
 go_wp2_with fail
 refine (zeM hh.out hn hc hc2).mono ?_
 rintro e w1 ⟨R,rfl,hR,hr1,hx1⟩
 have hx01:=hx0.trans hx1
 have bz1:=bz.ext hx1
 have by1:=by_.ext hx1
 go_wp2_with fail
 refine (spec_l6Pair hr1 (by omega)).mono ?_
 rintro e w2 ⟨s,C,k,q,t,B,m,d,rfl,hs,ht,hk,hm,hr2,hd2⟩
 have bz2:=bz1.dr hd2 (by omega)
 have by2:=by1.dr hd2 (by omega)
 have cz:=bz2.cell
 have fz:=bz2.frozen
 have cy:=by2.cell
 have fy:=by2.frozen
 have hfin:=hide (draw_two (c:=q) (d:=d) hs ht ⟨by omega,hk.2⟩ ⟨by omega,hm.2⟩ (by omega) (Dr.new hx01 (by omega) hd2) bz2 by2)
 clear bz by_ bz1 by1 hx0 hx1
 go_wp2_with fail
 exact bodyPost_ret (v:=.tuple #[.agg #[.int .i64 s.al,.int .i64 s.st,.slice C k q],.agg #[.int .i64 t.al,.int .i64 t.st,.slice B m d]]) (by simp [results,Tryz.results31,go_sem,cz,cy]) rfl hfin.out
set_option maxHeartbeats 4000000
section
variable {lo hi n c:Nat} {A:Option Addr} {s:Sys} {lo1 hi1 m1 d1 m1' d1':Nat} {B B':Option Addr} {p:Aut} {lo2 hi2 k c2:Nat} {C:Option Addr} {t:Sys} {x:ByteArray} {w:World}
variable {lo3 hi3 m2 d2 m2' d2':Nat} {D D':Option Addr} {a:Aut}
theorem yM13b1 {P:Prop}(h:P:=by
 generalize zeQ s t p x=R at *
 go_enter Tryz.func25,Tryz.ntmps25
 go_upto_region 1 with fail
 generalize (((w.alloc (.cells #[.int .i64 s.al,.int .i64 s.st,.slice A n c] 39)).alloc (.cells #[.int .i64 t.al,.int .i64 t.st,.slice C k c2] 39)).alloc (.cells #[.int .i64 p.al,.slice B m1 d1,.slice B' m1' d1'] 27)).alloc (.cells #[.bool false,.int .i64 a.al,.slice D m2 d2,.slice D' m2' d2',.string x] 45)=w1 at *
 have c1:=b1.cells
 have c2':=b2.cells
 have c3:=b3.cells
 have c4:=b4.cells
 have hx0:=Ext.refl w1
 go_wp2_with (first
  |(go_at_call 52;with_reducible refine (HV.out _ hw1).mono ?_;rintro e w2 ⟨rfl,hx2⟩;have hw2:=hw1.trans hx2)
  |(go_at_call 52;with_reducible refine (HV'.out _ hw2).mono ?_;rintro e w3 ⟨rfl,hx3⟩;have hx13:=hx2.trans hx3;have hw3:=hw1.trans hx13)
  |(go_at_call 19;with_reducible refine (HP.out _ hw3).mono ?_;rintro e w4 ⟨rfl,hx4⟩;have hx14:=hx13.trans hx4;have hw4:=hw1.trans hx14)
  |(go_at_call 27;with_reducible refine (HC.out _ hw4).mono ?_;rintro e w5 ⟨rfl,hx5⟩;have hx15:=hx14.trans hx5;have hw5:=hw1.trans hx15;have e6:=Blk.new w5 39 #[.int .i64 s.al,.int .i64 s.st,.slice A n c,.int .i64 t.al,.int .i64 t.st,.slice C k c2];have f6:=(Ext.refl w5).alloc (.cells #[.int .i64 s.al,.int .i64 s.st,.slice A n c,.int .i64 t.al,.int .i64 t.st,.slice C k c2] 39);have hx16:=hx15.trans f6;have hw6:=hw1.trans hx16;obtain⟨l1,l2,hsl⟩:=sl_two e6 (HS.out _ hw6) (HS'.out _ hw6))
  |(go_at_call 28;with_reducible refine (zaK hsl (HT.out _ hw6) hxs).mono ?_;rw [Ht1.out];rintro e w7 ⟨rfl,hx7⟩;have hx17:=hx16.trans hx7;have hw7:=hw1.trans hx17)
  |(go_at_call 29;with_reducible refine (HB.out _ hw7).mono ?_;rintro e w8 ⟨rfl,hx8⟩;have hx18:=hx17.trans hx8;have hw8:=hw1.trans hx18))
 go_ret
 exact⟨zK (by rw [hr.out,hr2.out];try rfl),by first|exact hw8|exact hw7|exact hw5|exact hw4|exact hw3|exact hw2⟩
 ):P:=h
theorem yM13a1 {P:Prop}(h:P:=by
 rw [hb1] at HB
 clear hb1
 exact yM13b1
 ):P:=h
theorem yM13a2 {P:Prop}(h:P:=by
 go_enter Tryz.func25,Tryz.ntmps25
 go_upto_region 1 with fail
 generalize (((w.alloc (.cells #[.int .i64 s.al,.int .i64 s.st,.slice A n c] 39)).alloc (.cells #[.int .i64 t.al,.int .i64 t.st,.slice C k c2] 39)).alloc (.cells #[.int .i64 p.al,.slice B m1 d1,.slice B' m1' d1'] 27)).alloc (.cells #[.bool false,.int .i64 a.al,.slice D m2 d2,.slice D' m2' d2',.string x] 45)=w1 at *
 have c1:=b1.cells
 have c2':=b2.cells
 have c3:=b3.cells
 have c4:=b4.cells
 have hx0:=Ext.refl w1
 go_wp2_with (first
  |(go_at_call 52;with_reducible refine (HV.out _ hw1).mono ?_;rintro e w2 ⟨rfl,hx2⟩;have hw2:=hw1.trans hx2)
  |(go_at_call 52;with_reducible refine (HV'.out _ hw2).mono ?_;rintro e w3 ⟨rfl,hx3⟩;have hx13:=hx2.trans hx3;have hw3:=hw1.trans hx13)
  |(go_at_call 19;with_reducible refine (HP.out _ hw3).mono ?_;rintro e w4 ⟨rfl,hx4⟩;have hx14:=hx13.trans hx4;have hw4:=hw1.trans hx14)
  |(go_at_call 27;with_reducible refine (HC.out _ hw4).mono ?_;rintro e w5 ⟨rfl,hx5⟩;have hx15:=hx14.trans hx5;have hw5:=hw1.trans hx15;have e6:=Blk.new w5 39 #[.int .i64 s.al,.int .i64 s.st,.slice A n c,.int .i64 t.al,.int .i64 t.st,.slice C k c2];have f6:=(Ext.refl w5).alloc (.cells #[.int .i64 s.al,.int .i64 s.st,.slice A n c,.int .i64 t.al,.int .i64 t.st,.slice C k c2] 39);have hx16:=hx15.trans f6;have hw6:=hw1.trans hx16;obtain⟨l1,l2,hsl⟩:=sl_two e6 (HS.out _ hw6) (HS'.out _ hw6))
  |(go_at_call 28;with_reducible refine (zaK hsl (HT.out _ hw6) hxs).mono ?_;rw [Ht1.out];rintro e w7 ⟨rfl,hx7⟩;have hx17:=hx16.trans hx7;have hw7:=hw1.trans hx17)
  |(go_at_call 29;with_reducible refine (HB.out _ hw7).mono ?_;rintro e w8 ⟨rfl,hx8⟩;have hx18:=hx17.trans hx8;have hw8:=hw1.trans hx18))
 go_ret
 exact⟨zK (by rw [hr.out];try rfl),by first|exact hw8|exact hw7|exact hw5|exact hw4|exact hw3|exact hw2⟩
 ):P:=h
set_option maxRecDepth 100000 in
theorem impl_CheckCertificate0 (h:zO w lo hi A n s)(ht:zO w lo2 hi2 C k t)(hp:zR w lo1 hi1 B m1 B' m1' p)(ha:zR w lo3 hi3 D m2 D' m2' a)(hxs:x.size≤9223372036854775807)(hT:Tab w) :
  Calls Tryz.prog 25 #[.agg #[.int .i64 s.al,.int .i64 s.st,.slice A n c],.agg #[.int .i64 t.al,.int .i64 t.st,.slice C k c2],.agg #[.int .i64 p.al,.slice B m1 d1,.slice B' m1' d1'],.agg #[.bool false,.int .i64 a.al,.slice D m2 d2,.slice D' m2' d2',.string x]] w fun e w'=>e=.returned (.int .i64 (zcX s t p false a x))∧Ext w w':=by
 have HT:=hide (fun W (hW:Ext w W)=>hT.ext hW)
 have HS:=hide (fun W (hW:Ext w W)=>h.ext hW)
 have HS':=hide (fun W (hW:Ext w W)=>ht.ext hW)
 have HB:=hide (fun W (hW:Ext w W)=>zdK (d:=d1) (d':=d1') (hp.ext hW) hxs)
 have HV:=hide (fun W (hW:Ext w W)=>zX (c:=c) (h.ext hW))
 have HV':=hide (fun W (hW:Ext w W)=>zX (c:=c2) (ht.ext hW))
 have HP:=hide (fun W (hW:Ext w W)=>zaP _ _ _ _ d1 _ _ d1' _ _ (hp.ext hW))
 have HC:=hide (fun W (hW:Ext w W)=>zdc _ _ _ _ d2 _ _ d2' false _ x _ (ha.ext hW) hxs)
 have hr:=hide (show zcX s t p false a x=if iface s p t<0 then 1 else if zP false a x=false then 2 else if false=false then zeQ s t p x
  else if zfv s t p a=2 then 3 else if zfv s t p a=3 then 4 else if zfv s t p a=4 then 5 else 0 from rfl)
 clear h hp ht ha
 have hw1:Ext w ((((w.alloc (.cells #[.int .i64 s.al,.int .i64 s.st,.slice A n c] 39)).alloc (.cells #[.int .i64 t.al,.int .i64 t.st,.slice C k c2] 39)).alloc (.cells #[.int .i64 p.al,.slice B m1 d1,.slice B' m1' d1'] 27)).alloc (.cells #[.bool false,.int .i64 a.al,.slice D m2 d2,.slice D' m2' d2',.string x] 45)):=((((Ext.refl w).alloc _).alloc _).alloc _).alloc _
 obtain⟨b1,b2,b3,b4⟩:=ext_blk4 (Ext.refl ((((w.alloc (.cells #[.int .i64 s.al,.int .i64 s.st,.slice A n c] 39)).alloc (.cells #[.int .i64 t.al,.int .i64 t.st,.slice C k c2] 39)).alloc (.cells #[.int .i64 p.al,.slice B m1 d1,.slice B' m1' d1'] 27)).alloc (.cells #[.bool false,.int .i64 a.al,.slice D m2 d2,.slice D' m2' d2',.string x] 45)))
 generalize zfv s t p a=F at *
 cases h1:zi s<;>cases h2:zi t<;>cases h3:zk p
 case true.true.true =>
  rw [if_neg (by rw [zea,h1,h2,h3];decide)] at hr
  rw [h1] at HV
  rw [h2] at HV'
  rw [h3] at HP
  clear h1 h2 h3
  cases hv0:zP false a x
  ·rw [hv0,if_pos rfl] at hr
   have hv:=hide hv0
   clear hv0
   rw [hv.out] at HC
   exact yM13a2
  rw [hv0,if_neg (by decide)] at hr
  have hv:=hide hv0
  clear hv0
  rw [hv.out] at HC
  ·rw [if_pos rfl] at hr
   have hr2:=hide (show zeQ s t p x=if topB [s,t] x=false then 6 else if zeH p x=false then 7 else 0 from rfl)
   cases ht1:topB [s,t] x
   ·rw [ht1,if_pos rfl] at hr2
    have Ht1:=hide ht1
    clear ht1
    exact yM13b1
   rw [ht1,if_neg (by decide)] at hr2
   have Ht1:=hide ht1
   clear ht1
   cases hb1:zeH p x
   ·rw [hb1,if_pos rfl] at hr2
    exact yM13a1
   rw [hb1,if_neg (by decide)] at hr2
   exact yM13a1
 all_goals
  rw [if_pos (by rw [zea,h1,h2,h3];rfl)] at hr
  rw [h1] at HV
  rw [h2] at HV'
  rw [h3] at HP
  clear h1 h2 h3
  exact yM13a2
end
end Go.Proofs.YtndhahednhnnbaaGreatDoor
namespace Go.Proofs.YtndhahednhnnbaaGreatDoor
open Go Go.ChangeShapes Go.WideShapes Go.ChangeAt Go.RowKit Go.Deep
def BytesAt (w:World) (A:Option Addr) (n c:Nat):Prop:=Bytes w A n∧n≤9223372036854775807∧n≤c∧c≤9223372036854775807
set_option maxRecDepth 100000 in
theorem arg_bytes {H:Type} {enc:TypeId × Value→H} {w:World} {spare:Nat→Bool} {held:Bool} {r:Reach} {b0:Nat} {v:Value} {d:DataW H} {p:List MemPlace}(hv:Value.okWide Tryz.prog w r b0 22 v)(h:DataW.Trod enc Tryz.prog w 0 spare held 22 v d p) :
  ∃ (A:Option Addr) (n c:Nat),v=.slice A n c∧BytesAt w A n c:=by
 obtain⟨a,l,k,rfl⟩:=okWide_slice Tryz.underlying22 hv
 obtain⟨fuel,hf⟩:=h
 rcases open_slice1 Tryz.underlying22 (by kernel_rfl) hf with ⟨h0,_⟩|⟨ad,len,cap,m,n,V,D,Pl,h0,hb,hl,hm,hmm,_,hx⟩
 ·simp [Value.cells] at h0
  obtain⟨rfl,rfl,rfl⟩:=h0
  exact⟨_,_,_,rfl,fun h=>absurd h (by omega),by omega,Nat.le_refl _,by omega⟩
 ·simp [Value.cells] at h0
  obtain⟨rfl,rfl,rfl⟩:=h0
  unfold maxLen at hm
  have hlm:l≤m:=by rw [hmm];split<;>omega
  refine⟨_,_,_,rfl,fun hn=>?_,by omega,hl,by omega⟩
  have h1:=(hx 0 (by omega)).1
  have hs:=zcc h1
  have hlt:=World.block_lt_of_cell? w _ h1
  rw [zgn] at hlt
  refine⟨ad.block,ad.off,by rw [← hs],hlt,fun j hj=>?_⟩
  obtain⟨h2,h3⟩:=hx j (by omega)
  obtain⟨b,hb1,_,hb3⟩:=DataW.trod_int Tryz.underlying5 h3
  have hV:V j=.int .u8 b:=by simpa using hb1
  rw [hV,hs,zL] at h2
  have hw:0≤b∧b<256:=by
   simp only [Lit.wf,Bool.and_eq_true,decide_eq_true_eq] at hb3
   have h4:IntKind.u8.min=0:=rfl
   have h5:IntKind.u8.max=255:=rfl
   omega
  refine⟨b.toNat,by omega,?_⟩
  rw [h2]
  have:((b.toNat:Nat):Int)=b:=by omega
  rw [this]
end Go.Proofs.YtndhahednhnnbaaGreatDoor
