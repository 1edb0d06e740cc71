/- spec.l13Draw -/
import Derived.Test.YtfcjhpodichpjaaGreatDoorQ14
import Derived.Shelf.Strings.OnBuilder
import Derived.Lib.Join
import Derived.Lib.Atoi
import Derived.Lib.AtoiAll
import Derived.Shelf.Strconv.Itoa1
import Derived.RangeFuncFrom
import Derived.RangeFuncNested
import Derived.RangeFuncBound
import Derived.RangeFuncCalls
import Derived.RangeFuncLeaves
import Derived.Shelf.Abstract
import Derived.Shelf.RegionOpen
import Derived.OwnWalkIn
import Derived.TacticsInMore
import Derived.LoopNIn
import Derived.LoopIn
import Derived.RangeFuncBox
set_option maxHeartbeats 6400000
set_option maxRecDepth 100000
namespace Go.Proofs.YtfcjhpodichpjaaGreatDoor
open Go Go.RowKit
open Bool renaming and_eq_true->dF,false_eq_true->eX
open Ext renaming eq_->fQ,refl->cW
open Frm renaming setCell->dE
open Int renaming toNat->iA
open List renaming append_assoc->gO,cons_append->fH,drop_zero->jF,getElem?_append_left->dK,getElem?_append_right->dP,getElem?_cons_zero->gP,getElem?_eq_getElem->dC,getElem?_eq_none->dZ,getElem?_map->dQ,length->iK,length_append->dL,length_cons->eI,length_map->dO,length_singleton->eA,map_congr_left->gT,map_map->fV,mem_of_getElem?->cX,nil_append->eB,replicate->dN,take_add_one->dH,take_length->eC,take_of_length_le->dG
open Nat renaming le_refl->cY,le_trans->dJ,sub_self->eW,zero_le->dD
open Option renaming map_some->gC
variable {A A' B B' C:Option Addr} {J K L M R Z b base c c' c2 cap d d' g k lo m m' n n' size:Nat} {S:Nat->Prop} {W W' w w' w1:World} {a:Aut} {cs:Array Value} {e:TypeId} {hd ok:Bool} {l pre:List ByteArray} {ls:List Int} {o:Obj} {r:List Nat} {s t x x0 y:ByteArray} {v:Value} {xs:List Value}
structure zer (w0 W:World) (R M K J:Nat) (a:Aut) (B:Option Addr) (m d:Nat) (B':Option Addr) (m' d':Nat) (x:ByteArray):Prop where
 own:zX W (R+1) B m d B' m' d' a
 bd:Hid (BdA K a∧x.size<=J)
 rd:Rd W R M
 dr:Dr R w0 W
 hR:R<w0.heap.size
def RetCe (R M K J:Nat) (w:World) (e:Ending) (w':World):Prop:=
 ∃ (hd:Bool) (a:Aut) (B:Option Addr) (m d:Nat) (B':Option Addr) (m' d':Nat) (x:ByteArray),e=.returned (.agg #[.bool hd,a.al,.slice B m d,.slice B' m' d',x])∧zer w w' R M K J a B m d B' m' d' x
section
variable {w0 W W':World} {R M K J N H I Z m d m' d':Nat} {a:Aut} {B B':Option Addr} {x:ByteArray} {hd:Bool}
theorem zer.drawn (h:zer w0 W R M K J a B m d B' m' d' x)(hd:Dr R W W')(hr:Rd W' R N):zer w0 W' R N K J a B m d B' m' d' x:=
 ⟨h.own.aq hd (fun b h1 e=>oM),h.bd,hr,h.dr.trans hd,h.hR⟩
theorem zer.ext (h:zer w0 W R M K J a B m d B' m' d' x)(hx:Ext W W'):zer w0 W' R M K J a B m d B' m' d' x:=h.drawn hx.dr (h.rd.ext hx)
theorem zer.more (h:zer w0 W R M K J a B m d B' m' d' x)(hM:M<=N)(hK:K<=H)(hJ:J<=I):zer w0 W R N H I a B m d B' m' d' x:=
 ⟨h.own,za ⟨BdL.more h.bd.out.1 hK,dJ h.bd.out.2 hJ⟩,h.rd.more hM,h.dr,h.hR⟩
theorem zer.far {ty:TypeId} (h:zer w0 W R M K J a B m d B' m' d' x)(hB:Blk W Z ty cs)(hf:Frm (fun k=>k=Z) W W')(hZ:w0.heap.size<=Z)(h2:ty≠3∧ty≠74∧ty≠4):zer w0 W' R M K J a B m d B' m' d' x:=
 ⟨h.own.ay hB hf h2,h.bd,h.rd.frm hf (fun k hk e=>oH h.hR),h.dr.far hf hZ,h.hR⟩
theorem zer.less (h:zer w0 W R M K J a B m d B' m' d' x)(hd:Dr R w1 w0)(hR:R<w1.heap.size):zer w1 W R M K J a B m d B' m' d' x:=
 ⟨h.own,h.bd,h.rd,hd.trans h.dr,hR⟩
theorem zer.fin {us:Array Value}(h:zer w0 W R M K J a B m d B' m' d' x)(hz:Blk W Z 28 us)(h5:us.size=5)(hZ:w0.heap.size<=Z) :
  Hid (RetCe R M K J w0 (.returned (.agg #[.bool hd,a.al,.slice B m d,.slice B' m' d',x])) (((((W.setCell Z (.bool hd)).setCell ⟨Z,1,none⟩ a.al).setCell ⟨Z,2,none⟩ (.slice B m d)).setCell ⟨Z,3,none⟩ (.slice B' m' d')).setCell ⟨Z,4,none⟩ x)) ∧
  Hid (Blk (((((W.setCell Z (.bool hd)).setCell ⟨Z,1,none⟩ a.al).setCell ⟨Z,2,none⟩ (.slice B m d)).setCell ⟨Z,3,none⟩ (.slice B' m' d')).setCell ⟨Z,4,none⟩ x) Z 28 #[.bool hd,a.al,.slice B m d,.slice B' m' d',x]):=by
 have b:=zat W Z (.bool hd) (.int .i64 a.al) (.slice B m d) (.slice B' m' d') (.string x);exact⟨za ⟨hd,a,B,m,d,B',m',d',x,rfl,h.far hz b hZ dM⟩,za (zP hz h5 _ _ _ _ _)⟩
end
theorem bd_valid (h:zh a=true∨a=noA):BdA 12 a:=by
 rcases h with h|rfl
 ·obtain⟨d,⟨f,h2⟩,g,b⟩:=zk h;refine⟨h2,oM,fun l hl=>?_⟩;obtain⟨q,c⟩:=List.getElem?_of_mem hl;rw [(b q l c).1];exact dJ (zB _ _) oM
 ·exact⟨dD _,dD _,fun l hl=>by simp [noA] at hl⟩
theorem bd_autX (s t:Sys) (p:Aut):BdA 12 (autX (vpT s t p).code (vpT s t p).asm (vpT s t p).tr)∧(strX (vpT s t p).code (vpT s t p).asm (vpT s t p).tr).size<=4000:=by
 refine⟨?_,?_⟩
 ·unfold autX;split
  ·exact bd_valid (vpT_asm s t p)
  ·exact bd_valid (.inr rfl)
 ·unfold strX;split
  ·exact (zjb s t p).2
  ·exact dD _
theorem iface_and (s t:Sys) (p:Aut):∃ a:Nat,a<64∧bits .and .i64 (iface s p t) 63=(a:Int):=by
 rcases zde s t p with h|⟨L,h⟩
 ·rw [h];exact⟨63,oM,dM⟩
 ·rw [h];exact⟨L&&&63,by have:=Nat.and_le_right (n:=L) (m:=63);omega,zcn (by have:=zio h;unfold Sm;omega) (by unfold Sm;decide)⟩
theorem sl_pairR {s t:Sys}(hb:Blk w g 39 #[s.al,s.st,.slice A n c,t.al,t.st,.slice C k c2])(hg:R<g)(h:zbp w R A n s)(h':zbp w R C k t):zet w (R+1) w.heap.size (some ⟨g,0,none⟩) 2 [s,t]:=by
 refine⟨rfl,[.int .i64 s.al,.int .i64 s.st,.slice A n c,.int .i64 t.al,.int .i64 t.st,.slice C k c2],⟨rfl,oM,fun _=>⟨_,rfl,hg,hb.lt,fun j u hu=>?_⟩⟩,fun j u hu=>?_⟩
 ·rw [zK,Nat.zero_add,hb.cell];simpa using hu
 ·match j with
  |0 =>
   simp at hu;subst hu;exact⟨A,n,c,rfl,rfl,rfl,h.at_⟩
  |1 =>
   simp at hu;subst hu;exact⟨C,k,c2,rfl,rfl,rfl,h'.at_⟩
  |j+2=>simp at hu
theorem yQ15a2 {P:Prop}(h:P:=by
 go_wp2_with fail
 have cf:=f2.out.cell;exact bodyPost_ret (v:=.agg #[.bool false,(0:Int),(),(),x]) (by simp [results,Tryz.results35,go_sem,cf]) rfl f1.out
 ):P:=h
theorem spec_l13Draw {s t:Sys} {p:Aut}  (h:zby w w R M L K s A n c t C k c2 p B m d B' m' d')(hM:M<=600000000)(hL:L<=100000) :
  Calls Tryz.prog 35 #[.pointer (some R),.agg #[s.al,s.st,.slice A n c],.agg #[t.al,t.st,.slice C k c2],.agg #[p.al,.slice B m d,.slice B' m' d']] w (RetCe R (M+1000) 16 4000 w):=by
 have af:=h.hR;obtain⟨w0,U0⟩:∃ x,Hid ((((w.alloc (.cells #[s.al,s.st,.slice A n c] 39)).alloc (.cells #[t.al,t.st,.slice C k c2] 39)).alloc (.cells #[p.al,.slice B m d,.slice B' m' d'] 26)).alloc (.cells #[.bool false,(0:Int),(),(),.string ⟨#[]⟩] 28)=x):=⟨_,za rfl⟩;have aV:Ext w w0:=(((((cW _).alloc _).alloc _).alloc _).alloc _).trans (fQ U0.out);obtain⟨b1,b2,b3⟩:=zN (((cW _).alloc _).trans (fQ U0.out));have r:=Ext.bl_ U0.out;simp only [World.size_alloc] at r
 go_enter Tryz.func35,Tryz.ntmps35
 go_upto_region 1 with fail
 rw [U0.out] at *;have u:=h.ext aV;have aW:=r.lt;have cS:=b1.cell;have cT:=b2.cell;have cP:=b3.cell;obtain⟨S,am⟩:∃ v,hdX (vpT s t p).code (vpT s t p).asm (vpT s t p).tr=v:=⟨_,rfl⟩;obtain⟨ad,aa⟩:∃ v,autX (vpT s t p).code (vpT s t p).asm (vpT s t p).tr=v:=⟨_,rfl⟩;obtain⟨U,ab⟩:∃ v,strX (vpT s t p).code (vpT s t p).asm (vpT s t p).tr=v:=⟨_,rfl⟩;obtain⟨aX,an⟩:∃ v,okC (vpT s t p).code (vpT s t p).asm (vpT s t p).tr=v:=⟨_,rfl⟩;have hC:=za (zfz (c:=c) (d:=d) (d':=d') (c2:=c2) u.is.at_ u.ip.reads u.it.at_ (oH u.ns) (cY _));have aE:=za (bd_autX s t p);rw [am,aa,ab,an] at hC;rw [aa,ab] at aE;clear am aa ab an;go_upto_region 2 with (first
  |(go_at_call 74;refine (hC.out).mono ?_;rintro e w1 ⟨D,q,f,D',q',f',rfl,ho,X⟩;clear cS cT cP))
 have aU:=X.size;have Y:=(cW w1).alloc (.cells #[.bool S,ad.al,.slice D q f,.slice D' q' f',U] 28);have V:=Blk.new w1 28 #[.bool S,ad.al,.slice D q f,.slice D' q' f',U];have aD:=u.rd.lt;have j:zer w (w1.alloc (.cells #[.bool S,ad.al,.slice D q f,.slice D' q' f',U] 28)) R M 12 4000 ad D q f D' q' f' U:=⟨(ho.ext Y).less oM,aE,(u.rd.ext X).ext Y,((u.dr.ext X).ext Y),af⟩;have au:=(u.ext X).ext Y;have J:=X.trans Y;replace b1:=b1.ext J;replace b2:=b2.ext J;replace b3:=b3.ext J;replace r:=r.ext J;clear ho Y J u hC;generalize hG:w1.heap.size=G at *;generalize w1.alloc _=w2 at *;go_wp2_with fail
 refine (zx au.rd oM).mono ?_;rintro e w3 ⟨y,rfl,-,-,ar,O⟩;have o:=au.drawn O ar;replace j:=j.drawn O ar;have aR:=o.rd.lt;replace b1:=b1.dr O oM;replace b2:=b2.dr O oM;replace b3:=b3.dr O oM;replace r:=r.dr O oM;replace V:=V.dr O oM;have aC:=za (show w.heap.size+4<=G by omega);clear au O ar X hG aU aW aD
 by_cases hy0:y=0
 ·subst hy0;have cS:=b1.cell;have cT:=b2.cell;have cP:=b3.cell;obtain⟨al,ha,a4⟩:=iface_and s t p;go_wp2_with fail
  refine (zaZ (c:=c) (d1:=d) (d1':=d') (c2:=c2) o.is.at_ o.ip.reads o.it.at_).mono (mQ fun w4 z=>?_);generalize iface s p t=a6 at *;clear cS cT cP;go_wp2_with fail
  refine (zhh (o.rd.ext z) oM ha).mono ?_;rintro e w5 ⟨b,E,n5,c5,E',Q,F,rfl,ag,aT,T,l⟩;have a5:=z.size;have g:=(r.ext z).dr l oM;have i:zer w w5 R (M+1+500) 16 0 b E n5 c5 E' Q F ⟨#[]⟩:=⟨ag.less oM,za ⟨BdA.of aT.out,cY _⟩,T,(o.dr.ext z).trans l,af⟩;obtain⟨f1,f2⟩:=(i.more (N:=M+1000) (H:=16) (I:=4000) oM oM oM).fin (hd:=true) g rfl oM;have cZ:=g.cell;have fZ:=g.frozen;clear g i ag;go_wp2_with fail
  have cf:=f2.out.cell;exact bodyPost_ret (v:=.agg #[.bool true,b.al,.slice E n5 c5,.slice E' Q F,.string ⟨#[]⟩]) (by simp [results,Tryz.results35,go_sem,cf]) rfl f1.out
 by_cases hy1:y=1
 ·subst hy1;have cS:=b1.cell;have cT:=b2.cell;go_upto_region 6 with fail
  have z:=(cW w3).alloc (.cells #[s.al,s.st,.slice A n c,t.al,t.st,.slice C k c2] 39);have bl:=Blk.new w3 39 #[s.al,s.st,.slice A n c,t.al,t.st,.slice C k c2];have aF:=sl_pairR (R:=R) bl aR (o.is.ext z) (o.it.ext z);have aG:=o.ext z;replace r:=r.ext z;have HT:=za (spec_l7Trace (c:=2) (q:=5) aG.rd oM aF oM oM);clear aF bl;go_wp2_with fail
  refine HT.out.mono ?_;rintro e w5 ⟨x,rfl,hx,T,l⟩;have i:zer w w5 R (M+1+2*5+2) 0 5 autZ none 0 0 none 0 0 x:=⟨ziA _ _,za ⟨bd_autZ _,hx⟩,T,aG.dr.trans l,af⟩;have g:=r.dr l oM;obtain⟨f1,f2⟩:=(i.more (N:=M+1000) (H:=16) (I:=4000) oM oM oM).fin (hd:=false) g rfl oM;dsimp only [autZ] at f1 f2;have cZ:=g.cell;have fZ:=g.frozen;clear g i cS cT;exact yQ15a2
 by_cases hy2:y=2
 ·subst hy2;go_wp2_with fail
  refine (spec_l1Word (a:=7) (q:=4) o.rd oM oM oM).mono ?_;rintro e w5 ⟨x,rfl,hx,T,l⟩;have i:zer w w5 R (M+1+4+2) 0 5 autZ none 0 0 none 0 0 x:=⟨ziA _ _,za ⟨bd_autZ _,oM⟩,T,o.dr.trans l,af⟩;have g:=r.dr l oM;obtain⟨f1,f2⟩:=(i.more (N:=M+1000) (H:=16) (I:=4000) oM oM oM).fin (hd:=false) g rfl oM;dsimp only [autZ] at f1 f2;have cZ:=g.cell;have fZ:=g.frozen;clear g i;exact yQ15a2
 have h0:((y:Int)==0)=false:=by simp;omega
 have h1:((y:Int)==1)=false:=by simp;omega
 have h2:((y:Int)==2)=false:=by simp;omega
 clear b1 b2 b3 hy0 hy1 hy2 o;go_upto_block 0 with fail
 go_cut [] (fun wx=>∃ (hd:Bool) (a:Aut) (B:Option Addr) (m d:Nat) (B':Option Addr) (m' d':Nat) (x:ByteArray),Blk wx G 28 #[.bool hd,a.al,.slice B m d,.slice B' m' d',x]∧Blk wx (w.heap.size+1+1+1) 28 #[.bool false,(0:Int),(),(),.string ⟨#[]⟩]∧zer w wx R (M+1000) 16 4000 a B m d B' m' d' x)
 case first =>
  have cG:=V.cell;have fG:=V.frozen;have aB:G≠w.heap.size+1+1+1:=oH aC.out;have a0:=aC.out
  by_cases hy3:y=3
  ·subst hy3;cases aX
   ·go_wp2_with fail
    go_meet;exact⟨_,_,_,_,_,_,_,_,_,V,r,j.more oM oM oM⟩
   ·cases S
    ·go_wp2_with fail
     go_meet;exact⟨_,_,_,_,_,_,_,_,_,V,r,j.more oM oM oM⟩
    ·go_wp2_with fail
     refine (zfi j.rd oM j.own j.bd.out.1 oM).mono ?_;rintro e w5 ⟨b,E,n5,c5,E',Q,F,rfl,ag,aS,T,l⟩;have i:=j.drawn l T;have Z:=V.dr l oM;have g:=r.dr l oM;clear cG fG;have cG:=Z.cell;have fG:=Z.frozen;have hf:Frm (fun k=>k=G) w5 (((w5.setCell ⟨G,1,none⟩ b.al).setCell ⟨G,2,none⟩ (.slice E n5 c5)).setCell ⟨G,3,none⟩ (.slice E' Q F)):=((dE w5 G 1 _).trans (dE _ G 2 _)).trans (dE _ G 3 _);have hB:Blk (((w5.setCell ⟨G,1,none⟩ b.al).setCell ⟨G,2,none⟩ (.slice E n5 c5)).setCell ⟨G,3,none⟩ (.slice E' Q F)) G 28 #[.bool true,.int .i64 b.al,.slice E n5 c5,.slice E' Q F,.string U]:=by
      simpa using ((Z.ab 1 (.int .i64 b.al)).ab 2 (.slice E n5 c5)).ab 3 (.slice E' Q F)
     have av:=(({ i with own:=ag.less oM,bd:=za ⟨aS.out,j.bd.out.2⟩ }:zer w w5 R _ 13 4000 b E n5 c5 E' Q F U).far Z hf oM dM).more (N:=M+1000) (H:=16) (I:=4000) oM oM oM
     have aq:=g.frm hf (fun e=>aB e.symm);clear Z g hf;go_wp2_with fail
     go_meet;exact⟨_,_,_,_,_,_,_,_,_,hB,aq,av⟩
  ·have h3:((y:Int)==3)=false:=by simp;omega
   by_cases hy4:y=4
   ·subst hy4;have hf:=dE w3 G 0 (.bool (!S));have hB:Blk (w3.setCell G (.bool (!S))) G 28 #[.bool (!S),.int .i64 ad.al,.slice D q f,.slice D' q' f',.string U]:=by
     simpa using V.ab 0 (.bool (!S))
    have av:=(j.far V hf oM dM).more (N:=M+1000) (H:=16) (I:=4000) oM oM oM;have aq:=r.frm hf (fun e=>aB e.symm);go_wp2_with fail
    go_meet;exact⟨_,_,_,_,_,_,_,_,_,hB,aq,av⟩
   ·have h4:((y:Int)==4)=false:=by simp;omega
    go_wp2_with fail
    go_meet;exact⟨_,_,_,_,_,_,_,_,_,V,r,j.more oM oM oM⟩
 case rest =>
  clear j V r;obtain⟨hd,a,B,m,d,B',m',d',x,V,r,j⟩:=hcut;obtain⟨f1,f2⟩:=j.fin (hd:=hd) r rfl oM;have cG:=V.cell;have cZ:=r.cell;have fZ:=r.frozen;go_wp2_with fail
  have cf:=f2.out.cell;exact bodyPost_ret (v:=.agg #[.bool hd,a.al,.slice B m d,.slice B' m' d',x]) (by simp [results,Tryz.results35,go_sem,cf]) rfl f1.out
theorem ziO (h:zer w w R M K J a B m d B' m' d' x)(hM:M<=600000000)(hK:K<=60)(hJ:J<=5000) :
  Calls Tryz.prog 39 #[.pointer (some R),.agg #[.bool hd,a.al,.slice B m d,.slice B' m' d',x]] w (RetCe R (M+100) (K+39) (J+1) w):=by
 have aG:=h.hR
 go_enter Tryz.func39,Tryz.ntmps39
 go_upto_region 1 with fail
 generalize U0:(w.alloc _).alloc _=w0 at *;obtain⟨O,j,o⟩:=Ext.x2_ U0;clear U0;have s:=h.ext O;go_wp2_with fail
 refine (zx s.rd oM).mono ?_;rintro e i ⟨y,rfl,-,-,t,f⟩;have b:=s.drawn f t;have aJ:=O.size;have ag:=b.dr.size;replace j:=j.dr f oM;replace o:=o.dr f oM;clear s f t O h;go_upto_block 0 with fail
 go_cut [] (fun wx=>∃ (a:Aut) (B:Option Addr) (m d:Nat) (B':Option Addr) (m' d':Nat) (x:ByteArray),Blk wx w.heap.size 28 #[.bool hd,a.al,.slice B m d,.slice B' m' d',x]∧Blk wx (w.heap.size+1) 28 #[.bool false,(0:Int),(),(),.string ⟨#[]⟩]∧zer w wx R (M+100) (K+39) (J+1) a B m d B' m' d' x)
 case first =>
  have cG:=j.cell;have D:y=0∨y=1∨y=2∨3<=y:=oM;rcases D with Q|Q|Q|Q
  ·subst Q;have ah:True:=trivial;go_wp2_with fail
   refine (zbH b.rd oM b.own b.bd.out.1 oM).mono ?_;rintro e v1 ⟨a1,A1,n1,d1,B1,m1,e1,rfl,au,ao,af,G⟩;have E:=b.drawn G af;have ae:=b.rd.lt;have aH:=E.rd.lt;clear cG;go_wp2_with fail
   refine (zbH af oM (au.less oM) ao.out oM).mono ?_;rintro e v2 ⟨a2,A2,n2,d2,B2,m2,e2,rfl,av,ap,t,f⟩;have F:=E.drawn f t;have aI:=F.rd.lt;go_wp2_with fail
   refine (zbH t oM (av.less oM) ap.out oM).mono ?_;rintro e v3 ⟨U,S,n3,V,T,m3,Y,rfl,aw,aq,ax,L⟩;have ab:=F.drawn L ax;have c:=((j.dr G oM).dr f oM).dr L oM;have p:=((o.dr G oM).dr f oM).dr L oM;have cG:=c.cell;have fG:=c.frozen;have C:Frm (fun k=>k=w.heap.size) v3 (((v3.setCell ⟨w.heap.size,1,none⟩ U.al).setCell ⟨w.heap.size,2,none⟩ (.slice S n3 V)).setCell ⟨w.heap.size,3,none⟩ (.slice T m3 Y)):=((dE v3 w.heap.size 1 _).trans (dE _ w.heap.size 2 _)).trans (dE _ w.heap.size 3 _);have Z:Blk (((v3.setCell ⟨w.heap.size,1,none⟩ U.al).setCell ⟨w.heap.size,2,none⟩ (.slice S n3 V)).setCell ⟨w.heap.size,3,none⟩ (.slice T m3 Y)) w.heap.size 28 #[.bool hd,.int .i64 U.al,.slice S n3 V,.slice T m3 Y,.string x]:=by
    simpa using ((c.ab 1 (.int .i64 U.al)).ab 2 (.slice S n3 V)).ab 3 (.slice T m3 Y)
   have z:=(({ ab with own:=aw.less oM,bd:=za ⟨aq.out,b.bd.out.2⟩ }:zer w v3 R _ (K+13+13+13) J U S n3 V T m3 Y x).far c C oM dM).more (N:=M+100) (H:=K+39) (I:=J+1) oM oM oM
   have r:=p.frm C oM;clear c p C;go_wp2_with fail
   go_meet;exact⟨_,_,_,_,_,_,_,_,Z,r,z⟩
  ·subst Q;have ah:True:=trivial;have aL:=b.bd.out.2;have aa:K<=K+39:=oM;generalize hK9:K+39=K9 at *;have aF:∀ W,Dr R i W->∀ q,W.cell? ⟨w.heap.size,q,none⟩=#[Value.bool hd,.int .i64 a.al,.slice B m d,.slice B' m' d',.string x][q]?:=fun W hW=>(j.dr hW oM).cell;clear cG;go_wp2_with fail
   refine tR (fun X=>Dr R i X) [7] (Ord.of [0,1,2,3,4,5,6,7]) ?_;refine tQ ?_;refine zA fun K hK=>?_;go_simp;refine hK.out _ _ ((Dr.refl R i).drew.alloc _) ?_;refine pT ?_;refine zA fun K hK=>?_;go_simp;have az:=(cW i).drew;have aA:=zbl i.drew (us:=#[.string ⟨#[103]⟩,.string ⟨#[97]⟩,.string ⟨#[45]⟩]) (n:=3) rfl rfl oM;have ae:=b.rd.lt;refine (l19Rd_of ((b.rd.ext az).ext ((cW _).alloc _)) oM (Reads.af aA) (by show R<i.drew.heap.size;exact ae) oM).mono ?_;rintro e w4 ⟨u,hu,rfl,ay,ar⟩;have g:Dr R i w4:=((Dr.refl R i).drew.alloc _).trans ar;have aK:u.size<=1:=by
    simp [ziV] at hu;rcases hu with rfl|rfl|rfl<;>decide
   have aN:¬ (9223372036854775807<x.size+u.size):=oM;refine hK.out _ _ g ?_;refine pT ?_;refine tQ ?_;have ad:=b.drawn g ay;have c:=j.dr g oM;have p:=o.dr g oM;have fG:=c.frozen;have C:=dE w4 w.heap.size 4 (.string (x++u));have Z:Blk (w4.setCell ⟨w.heap.size,4,none⟩ (.string (x++u))) w.heap.size 28 #[.bool hd,.int .i64 a.al,.slice B m d,.slice B' m' d',.string (x++u)]:=by
    simpa using c.ab 4 (.string (x++u))
   have z:=(({ ad with bd:=za ⟨b.bd.out.1,by rw [ByteArray.size_append];omega⟩ }:zer w w4 R _ _ (J+1) a B m d B' m' d' (x++u)).far c C oM dM).more (N:=M+100) (H:=K9) (I:=J+1) oM aa oM
   have r:=p.frm C oM;refine zJ fun K hK=>?_;go_simp;refine hK.out _ _ ?_;refine zai ?_;clear c p C;go_wp2_with fail
   go_meet;exact⟨_,_,_,_,_,_,_,_,Z,r,z⟩
  ·subst Q;have ah:True:=trivial;have fG:=j.frozen;have C:Frm (fun k=>k=w.heap.size) i (((i.setCell ⟨w.heap.size,1,none⟩ (1:Int)).setCell ⟨w.heap.size,2,none⟩ ()).setCell ⟨w.heap.size,3,none⟩ ()):=((dE i w.heap.size 1 _).trans (dE _ w.heap.size 2 _)).trans (dE _ w.heap.size 3 _);have Z:Blk (((i.setCell ⟨w.heap.size,1,none⟩ (1:Int)).setCell ⟨w.heap.size,2,none⟩ ()).setCell ⟨w.heap.size,3,none⟩ ()) w.heap.size 28 #[.bool hd,.int .i64 (⟨1,[],[]⟩:Aut).al,.slice none 0 0,.slice none 0 0,.string x]:=by
    simpa using ((j.ab 1 (.int .i64 1)).ab 2 (.slice none 0 0)).ab 3 (.slice none 0 0)
   have z:=(({ b with own:=⟨⟨[],World.ownsRow_nil _ _ _ _,zG.nil _ _⟩,rfl,World.ownsRow_nil _ _ _ _,rfl⟩,bd:=za ⟨⟨dD _,dD _,fun l hl=>by simp at hl⟩,b.bd.out.2⟩ }:zer w i R _ K J ⟨1,[],[]⟩ none 0 0 none 0 0 x).far j C oM dM).more (N:=M+100) (H:=K+39) (I:=J+1) oM oM oM
   have r:=o.frm C oM;go_wp2_with fail
   go_meet;exact⟨_,_,_,_,_,_,_,_,Z,r,z⟩
  ·have h0:((y:Int)==0)=false:=by simp;omega
   have h1:((y:Int)==1)=false:=by simp;omega
   have h2:((y:Int)==2)=false:=by simp;omega
   go_wp2_with fail
   go_meet;exact⟨_,_,_,_,_,_,_,_,j,o,b.more oM oM oM⟩
 case rest =>
  clear b j o ag;obtain⟨a,B,m,d,B',m',d',x,bc,o,b⟩:=hcut;obtain⟨f1,f2⟩:=b.fin (hd:=hd) o rfl oM;have cG:=bc.cell;have cZ:=o.cell;have fZ:=o.frozen;go_wp2_with fail
  have cf:=f2.out.cell;exact bodyPost_ret (v:=.agg #[.bool hd,a.al,.slice B m d,.slice B' m' d',x]) (by simp [results,Tryz.results39,go_sem,cf]) rfl f1.out
theorem zX.at_new (h:zX w base A n c A' n' c' a)(hl:lo<=base):zI w lo w.heap.size A n A' n' a:=(h.less hl).reads
def RetDK (w:World) (e:Ending) (w':World):Prop:=
 ∃ (s:Sys) (A:Option Addr) (n c:Nat) (t:Sys) (C:Option Addr) (k c2:Nat) (p:Aut) (B:Option Addr) (m d:Nat) (B':Option Addr) (m' d':Nat) (hd:Bool) (a:Aut) (D:Option Addr) (q f:Nat) (D':Option Addr) (q' f':Nat) (x:ByteArray),
  e=.returned (.tuple #[.agg #[s.al,s.st,.slice A n c],.agg #[t.al,t.st,.slice C k c2],.agg #[p.al,.slice B m d,.slice B' m' d'],.agg #[.bool hd,a.al,.slice D q f,.slice D' q' f',x]]) ∧
  (zR w' w.heap.size w'.heap.size A n s∧zR w' w.heap.size w'.heap.size C k t∧zI w' w.heap.size w'.heap.size B m B' m' p∧zI w' w.heap.size w'.heap.size D q D' q' a) ∧
  Hid (((n<=100000∧n<=c)∧(k<=100000∧k<=c2))∧BdA 100 p∧BdA 100 a∧x.size<=5000)∧Ext w w'
theorem draw_ck {N H q f q' f':Nat} {s t:Sys} {p:Aut} {D D':Option Addr}    (hx:Ext w w1)(hR:w.heap.size<=R)(hT:zby w1 W R M L K s A n c t C k c2 p B m d B' m' d')(hC:zer w1 W R N H J a D q f D' q' f' x)
  (hF:Frm S W W') (hS:∀ k,S k->w.heap.size<=k∧k<R) (hL:L<=100000) (hK:K<=100) (hH:H<=100) (hJ:J<=5000) :
  RetDK w (.returned (.tuple #[.agg #[s.al,s.st,.slice A n c],.agg #[t.al,t.st,.slice C k c2],.agg #[p.al,.slice B m d,.slice B' m' d'],.agg #[.bool hd,a.al,.slice D q f,.slice D' q' f',x]])) W':=by
 have b:Ext w W:=Dr.new hx hR hT.dr;have g:=hT.is.frm hF (fun k hk h1=>by have:=hS k hk;omega);have h:=hT.it.frm hF (fun k hk h1=>by have:=hS k hk;omega);have i:=hT.ip.aq hF (fun k h1 hk=>by have:=hS k hk;omega);have j:=hC.own.aq hF (fun k h1 hk=>by have:=hS k hk;omega);have l:=hT.ns;exact⟨s,A,n,c,t,C,k,c2,p,B,m,d,B',m',d',hd,a,D,q,f,D',q',f',x,rfl,⟨g.new hR,h.new hR,i.at_new oM,j.at_new oM⟩,za ⟨oM,BdL.more hT.bd.out hK,BdL.more hC.bd.out.1 hH,dJ hC.bd.out.2 hJ⟩,b.frm hF (fun k hk hk2=>by have:=hS k hk2;omega)⟩
theorem zhz {A0:Option Addr} {n0 c0:Nat} (h:Bytes w A0 n0)(hn:n0<=9223372036854775807)(hc:n0<=c0)(hc2:c0<=9223372036854775807) :
  Calls Tryz.prog 15 #[.slice A0 n0 c0] w (RetDK w):=by
 obtain⟨w0,U0⟩:∃ x,Hid ((((w.alloc (.cells #[(0:Int),(0:Int),()] 39)).alloc (.cells #[(0:Int),(0:Int),()] 39)).alloc (.cells #[(0:Int),(),()] 26)).alloc (.cells #[.bool false,(0:Int),(),(),.string ⟨#[]⟩] 28)=x):=⟨_,za rfl⟩;have aF:Ext w w0:=(((((cW _).alloc _).alloc _).alloc _).alloc _).trans (fQ U0.out);obtain⟨u,o,l,i⟩:=zeS (fQ U0.out);have bD:w0.heap.size=w.heap.size+4:=by rw [← U0.out];simp
 have hh:=za (h.ext aF);clear h
 go_enter Tryz.func15,Tryz.ntmps15
 go_upto_region 1 with fail
 rw [U0.out] at *;go_wp2_with fail
 refine (spec_l19Open hh.out hn hc hc2).mono ?_;rintro e w1 ⟨R,rfl,hR,aR,U⟩;have aU:=aF.trans U;have aN:=aR.lt;replace u:=u.ext U;replace o:=o.ext U;replace l:=l.ext U;replace i:=i.ext U;go_upto_region 3 with (first
  |(go_at_call 34;refine (spec_l12Draw aR oM).mono ?_;rintro e w2 ⟨s,A,n,c,t,C,k,c2,p,B,m,d,B',m',d',rfl,ht⟩))
 obtain⟨w3,U0⟩:∃ x,Hid (((w2.alloc (.cells #[s.al,s.st,.slice A n c] 39)).alloc (.cells #[t.al,t.st,.slice C k c2] 39)).alloc (.cells #[p.al,.slice B m d,.slice B' m' d'] 26)=x):=⟨_,za rfl⟩;have V:Ext w2 w3:=((((cW _).alloc _).alloc _).alloc _).trans (fQ U0.out);obtain⟨Z,I,O⟩:=zN (fQ U0.out);have bE:=ht.dr.size;have zz:=za (And.intro ((u.dr ht.dr oM).ext V) (And.intro ((o.dr ht.dr oM).ext V) (And.intro ((l.dr ht.dr oM).ext V) ((i.dr ht.dr oM).ext V))));have ad:=ht.ext V;have aT:w3.heap.size=w2.heap.size+3:=by rw [← U0.out];simp
 clear ht V u o l i;generalize hG:w2.heap.size=G at *;rw [U0.out] at *;clear hG;have cS:=Z.cell;have cT:=I.cell;have cP:=O.cell;have HD:=za (spec_l13Draw ad.own oM oM);have bC:=ad.ns;go_upto_region 4 with (first
  |(go_at_call 35;refine HD.out.mono ?_;rintro e w4 ⟨a1,a4,D4,q4,f4,aX,a2,aZ,x4,rfl,aa⟩;have aQ:=za (ziO (hd:=a1) ({ aa with dr:=Dr.refl _ _,hR:=aa.rd.lt }:zer w4 w4 R _ 16 4000 a4 D4 q4 f4 aX a2 aZ x4) oM oM oM))
  |(go_at_call 39;refine aQ.out.mono ?_;rintro e w5 ⟨hd,a,D,q,f,D',q',f',x,rfl,aD⟩))
 have Q:=aa.dr;have ab:=aD.dr;have aG:=(cW w5).alloc (.cells #[.bool hd,a.al,.slice D q f,.slice D' q' f',x] 28);have bc:=Blk.new w5 28 #[.bool hd,a.al,.slice D q f,.slice D' q' f',x];have g:Dr R w3 (w5.alloc (.cells #[.bool hd,a.al,.slice D q f,.slice D' q' f',x] 28)):=(Q.trans ab).ext aG;have z:=((aD.less Q aa.hR).ext aG).less ad.dr aN;have af:=ad.drawn g z.rd;have aS:=(Q.trans ab).size;replace Z:=Z.dr g oM;replace I:=I.dr g oM;replace O:=O.dr g oM;obtain⟨u,o,l,i⟩:=zz.out;replace zz:=za (And.intro (u.dr g oM) (And.intro (o.dr g oM) (And.intro (l.dr g oM) (i.dr g oM))));clear aa aD Q ab aG g ad u o l i HD aQ cS cT cP aF U;have r:=za (show G+3<=w5.heap.size∧R<G by omega);generalize hGe:w5.heap.size=Gc at *;generalize w5.alloc _=w6 at *;clear hGe aS aT;have cS:=Z.cell;have cT:=I.cell;have cP:=O.cell;have HS:=za (spec_l9Spoil af.own oM oM oM);go_wp2_with fail
 refine HS.out.mono ?_;rintro e w7 ⟨J,A7,n7,c7,L,C7,k7,d7,p7,B7,m7,e7,E,H,F,rfl,ag⟩;have bA:=af.rd.lt;have g:=ag.dr;replace z:=z.drawn g ag.rd;have M:=ag.less af.dr aN;replace Z:=Z.dr g (oH r.out);replace I:=I.dr g (oH r.out);replace O:=O.dr g (oH r.out);replace bc:=bc.dr g (oH r.out);obtain⟨u,o,l,i⟩:=zz.out;replace zz:=za (And.intro (u.dr g oM) (And.intro (o.dr g oM) (And.intro (l.dr g oM) (i.dr g oM))));clear af ag g u o l i HS cS cT cP;have cS:=Z.cell;have fS:=Z.frozen;have cT:=I.cell;have fT:=I.frozen;have cP:=O.cell;have fP:=O.frozen;go_upto_region 5 with fail
 have b:=zag w7 G (.int .i64 J.al) (.int .i64 J.st) (.slice A7 n7 c7);have q1:=zaw Z rfl (.int .i64 J.al) (.int .i64 J.st) (.slice A7 n7 c7);replace M:=M.far Z b oM dM dM;replace z:=z.far Z b oM dM;replace I:=I.frm b oM;replace O:=O.frm b oM;replace bc:=bc.frm b (oH r.out);obtain⟨u,o,l,i⟩:=zz.out;replace u:=u.frm b oM;replace o:=o.frm b oM;replace l:=l.frm b oM;replace i:=i.frm b oM;clear zz b Z cS fS cT fT cP fP;generalize ((w7.setCell G J.al).setCell ⟨G,1,none⟩ J.st).setCell ⟨G,2,none⟩ (.slice A7 n7 c7)=w8 at *;have b:=zag w8 (G+1+1) (.int .i64 p7.al) (.slice B7 m7 e7) (.slice E H F);have q3:=zaw O rfl (.int .i64 p7.al) (.slice B7 m7 e7) (.slice E H F);replace M:=M.far O b oM dM dM;replace z:=z.far O b oM dM;replace I:=I.frm b oM;replace q1:=q1.frm b oM;replace bc:=bc.frm b (oH r.out);replace u:=u.frm b oM;replace o:=o.frm b oM;replace l:=l.frm b oM;replace i:=i.frm b oM;clear b O;generalize ((w8.setCell ⟨G+1+1,0,none⟩ p7.al).setCell ⟨G+1+1,1,none⟩ (.slice B7 m7 e7)).setCell ⟨G+1+1,2,none⟩ (.slice E H F)=w9 at *;have b:=zag w9 (G+1) (.int .i64 L.al) (.int .i64 L.st) (.slice C7 k7 d7);have q2:=zaw I rfl (.int .i64 L.al) (.int .i64 L.st) (.slice C7 k7 d7);replace M:=M.far I b oM dM dM;replace z:=z.far I b oM dM;replace q1:=q1.frm b oM;replace q3:=q3.frm b oM;replace bc:=bc.frm b (oH r.out);replace u:=u.frm b oM;replace o:=o.frm b oM;replace l:=l.frm b oM;replace i:=i.frm b oM;clear b I;generalize ((w9.setCell ⟨G+1,0,none⟩ L.al).setCell ⟨G+1,1,none⟩ L.st).setCell ⟨G+1,2,none⟩ (.slice C7 k7 d7)=S at *;have cS:∀ W,Frm (fun k=>k=w.heap.size∨k=w.heap.size+1∨k=w.heap.size+1+1) S W->∀ q,W.cell? ⟨G,q,none⟩=#[Value.int .i64 J.al,.int .i64 J.st,.slice A7 n7 c7][q]?:=fun W hW=>(q1.frm hW (oH r.out)).cell;have cT:∀ W,Frm (fun k=>k=w.heap.size∨k=w.heap.size+1∨k=w.heap.size+1+1) S W->∀ q,W.cell? ⟨G+1,q,none⟩=#[Value.int .i64 L.al,.int .i64 L.st,.slice C7 k7 d7][q]?:=fun W hW=>(q2.frm hW (oH r.out)).cell;have cP:∀ W,Frm (fun k=>k=w.heap.size∨k=w.heap.size+1∨k=w.heap.size+1+1) S W->∀ q,W.cell? ⟨G+1+1,q,none⟩=#[Value.int .i64 p7.al,.slice B7 m7 e7,.slice E H F][q]?:=fun W hW=>(q3.frm hW (oH r.out)).cell;have cC:∀ W,Frm (fun k=>k=w.heap.size∨k=w.heap.size+1∨k=w.heap.size+1+1) S W->∀ j,W.cell? ⟨Gc,j,none⟩=#[Value.bool hd,.int .i64 a.al,.slice D q f,.slice D' q' f',.string x][j]?:=fun W hW=>(bc.frm hW (oH r.out)).cell;have aO:Frm (fun k=>k=w.heap.size∨k=w.heap.size+1∨k=w.heap.size+1+1) S S.drew:=(cW S).drew.ai;have Y:=(cW S).drew;have a0:Frm (fun k=>k=w.heap.size∨k=w.heap.size+1∨k=w.heap.size+1+1∨k=w.heap.size+1+1+1) S S:=Frm.refl _ _;clear q1 q2 q3 bc;go_wp2_with fail
 refine tR (fun X=>Frm (fun k=>k=w.heap.size∨k=w.heap.size+1∨k=w.heap.size+1+1) S X) [7] (Ord.of [0,1,2,3,4,5,6,7]) ?_;refine tQ ?_;have y:Frm (fun k=>k=w.heap.size∨k=w.heap.size+1∨k=w.heap.size+1+1∨k=w.heap.size+1+1+1) S S.drew:=Y.ai;replace u:=u.ext Y;replace o:=o.ext Y;replace l:=l.ext Y;replace i:=i.ext Y;clear a0;generalize hwD:S.drew=wD at *;clear hwD Y;have k1:=u.cell;have g1:=u.frozen;refine zA fun K hK=>?_;go_simp;have r1:=zaw u rfl (.int .i64 J.al) (.int .i64 J.st) (.slice A7 n7 c7);have b:=zag wD w.heap.size (.int .i64 J.al) (.int .i64 J.st) (.slice A7 n7 c7);replace o:=o.frm b oM;replace l:=l.frm b oM;replace i:=i.frm b oM;have aB:=aO.trans (b.mono (T:=fun k=>k=w.heap.size∨k=w.heap.size+1∨k=w.heap.size+1+1) (fun k _ hk=>.inl hk));replace y:=y.trans (b.mono (T:=fun k=>k=w.heap.size∨k=w.heap.size+1∨k=w.heap.size+1+1∨k=w.heap.size+1+1+1) (fun k _ hk=>.inl hk));refine hK.out _ _ aB ?_;refine pT ?_;clear k1 g1 u b aO;generalize ((wD.setCell w.heap.size J.al).setCell ⟨w.heap.size,1,none⟩ J.st).setCell ⟨w.heap.size,2,none⟩ (.slice A7 n7 c7)=wA at *;have k1:=o.cell;have g1:=o.frozen;refine zA fun K hK=>?_;go_simp;have r2:=zaw o rfl (.int .i64 L.al) (.int .i64 L.st) (.slice C7 k7 d7);have b:=zag wA (w.heap.size+1) (.int .i64 L.al) (.int .i64 L.st) (.slice C7 k7 d7);replace r1:=r1.frm b oM;replace l:=l.frm b oM;replace i:=i.frm b oM;have aC:=aB.trans (b.mono (T:=fun k=>k=w.heap.size∨k=w.heap.size+1∨k=w.heap.size+1+1) (fun k _ hk=>.inr (.inl hk)));replace y:=y.trans (b.mono (T:=fun k=>k=w.heap.size∨k=w.heap.size+1∨k=w.heap.size+1+1∨k=w.heap.size+1+1+1) (fun k _ hk=>.inr (.inl hk)));refine hK.out _ _ aC ?_;refine pT ?_;clear k1 g1 o b aB;generalize ((wA.setCell ⟨w.heap.size+1,0,none⟩ L.al).setCell ⟨w.heap.size+1,1,none⟩ L.st).setCell ⟨w.heap.size+1,2,none⟩ (.slice C7 k7 d7)=wB at *;have k1:=l.cell;have g1:=l.frozen;refine zA fun K hK=>?_;go_simp;have r3:=zaw l rfl (.int .i64 p7.al) (.slice B7 m7 e7) (.slice E H F);have b:=zag wB (w.heap.size+1+1) (.int .i64 p7.al) (.slice B7 m7 e7) (.slice E H F);replace r1:=r1.frm b oM;replace r2:=r2.frm b oM;replace i:=i.frm b oM;have aP:=aC.trans (b.mono (T:=fun k=>k=w.heap.size∨k=w.heap.size+1∨k=w.heap.size+1+1) (fun k _ hk=>.inr (.inr hk)));replace y:=y.trans (b.mono (T:=fun k=>k=w.heap.size∨k=w.heap.size+1∨k=w.heap.size+1+1∨k=w.heap.size+1+1+1) (fun k _ hk=>.inr (.inr (.inl hk))));refine hK.out _ _ aP ?_;refine pT ?_;clear k1 g1 l b aC;generalize ((wB.setCell ⟨w.heap.size+1+1,0,none⟩ p7.al).setCell ⟨w.heap.size+1+1,1,none⟩ (.slice B7 m7 e7)).setCell ⟨w.heap.size+1+1,2,none⟩ (.slice E H F)=wC at *;have k1:=i.cell;have g1:=i.frozen;refine zJ fun K hK=>?_;go_simp;have r4:=zP i rfl (.bool hd) (.int .i64 a.al) (.slice D q f) (.slice D' q' f') (.string x);have b:=zat wC (w.heap.size+1+1+1) (.bool hd) (.int .i64 a.al) (.slice D q f) (.slice D' q' f') (.string x);replace r1:=r1.frm b oM;replace r2:=r2.frm b oM;replace r3:=r3.frm b oM;replace y:=y.trans (b.mono (T:=fun k=>k=w.heap.size∨k=w.heap.size+1∨k=w.heap.size+1+1∨k=w.heap.size+1+1+1) (fun k _ hk=>.inr (.inr (.inr hk))));refine hK.out _ _ ?_;refine zai ?_;have a6:=za (draw_ck (hd:=hd) aU oM M z y (fun k hk=>oM) oM oM oM oM);clear k1 g1 i b aP y cS cT cP cC;generalize (((((wC.setCell ⟨w.heap.size+1+1+1,0,none⟩ (.bool hd)).setCell ⟨w.heap.size+1+1+1,1,none⟩ a.al).setCell ⟨w.heap.size+1+1+1,2,none⟩ (.slice D q f)).setCell ⟨w.heap.size+1+1+1,3,none⟩ (.slice D' q' f')).setCell ⟨w.heap.size+1+1+1,4,none⟩ x)=wF at *;go_wp2_with fail
 have c1:=r1.cell;have aY:=r2.cell;have c3:=r3.cell;have c4:=r4.cell;exact bodyPost_ret (v:=.tuple #[.agg #[J.al,J.st,.slice A7 n7 c7],.agg #[L.al,L.st,.slice C7 k7 d7],.agg #[p7.al,.slice B7 m7 e7,.slice E H F],.agg #[.bool hd,a.al,.slice D q f,.slice D' q' f',x]]) (by simp [results,Tryz.results15,go_sem,c1,aY,c3,c4]) rfl a6.out
structure Gro (w0 W:World) (G:Nat) (al:Int) (v:Value) (rows:List Value) (ls:List (List Int)) (vA:Value) (acc:List Bool):Prop where
 blk:Blk W G 26 #[al,v,vA]
 nx:W.ownsRow w0.heap.size 74 1 v ls.length rows
 rows:zG W w0.heap.size rows ls
 acc:W.ownsRow w0.heap.size 4 1 vA acc.length (zaA acc)
 ext:Ext w0 W
 hG:w0.heap.size<=G
section
variable {w0 W W':World} {G N:Nat} {al:Int} {v vA:Value} {rows:List Value} {ls:List (List Int)} {acc:List Bool}
theorem Gro.more (h:Gro w0 W G al v rows ls vA acc)(hx:Ext W W'):Gro w0 W' G al v rows ls vA acc:=⟨h.blk.ext hx,zg h.nx hx,h.rows.ext hx,zg h.acc hx,h.ext.trans hx,h.hG⟩
theorem Gro.low (h:Gro w0 W G al v rows ls vA acc):∀ (i:Nat) (r:Value) (b:Nat),rows[i]?=some r->r.ownBlock=some b->b<W.heap.size:=fun i r b hr hb=>by
 obtain⟨l,_,ho⟩:=h.rows.row hr
 exact (ho.lt b hb).2
theorem Gro.ar {row:Value} {l:List Int} (h:Gro w0 W G al v rows ls vA acc)(hlow:∀ (i:Nat) (r:Value) (b:Nat),rows[i]?=some r->r.ownBlock=some b->b<K)(hK:w0.heap.size<=K)(hrow:W.ownsRow K 3 1 row l.length (ints l))
  (zjc:W'.ownsRow w0.heap.size 74 1 (.slice (some g) (ls.length+1) cap) (ls.length+1) (rows++[row]))
  (hg:W.grownBy W' v.ownBlock) (hat:v.ownBlock=some g∨g=W.heap.size+1) :
  Hid (W'.cell? ⟨G,1,none⟩=some v)∧W'.frozen? ⟨G,1,none⟩=false∧Gro w0 (W'.setCell ⟨G,1,none⟩ (.slice (some g) (ls.length+1) cap)) G al (.slice (some g) (ls.length+1) cap) (rows++[row]) (ls++[l]) vA acc:=by
 have d:=h.hG;have c:Blk W' G 26 #[.int .i64 al,v,vA]:=(hg.block G h.blk.lt (fun e=>zq h.nx h.blk dM e.symm rfl)).trans h.blk;have t:g≠G:=by
  rcases hat with s|s
  ·exact zq h.nx h.blk dM s
  ·have:=h.blk.lt;omega
 have f:Frm (fun k=>v.ownBlock=some k) W W':=Frm.ae hg;have o:=h.ext.grown hg (fun k hk=>(h.nx.lt k hk).1);have j:=h.rows.snoc2 hlow hK hrow;have m:zG W' w0.heap.size (rows++[row]) (ls++[l]):=j.frm f (fun i r b hr hb hS=>by
  obtain⟨u,_,q⟩:=j.row hr;exact zaM q h.nx dM hb hS)
 have n:W'.ownsRow w0.heap.size 4 1 vA acc.length (zaA acc):=zf h.acc f (fun b hb hS=>zaM h.acc h.nx dM hb hS);have a:=dE W' G 1 (.slice (some g) (ls.length+1) cap);refine⟨c.cell 1,c.frozen 1,⟨by simpa using c.ab 1 _,?_,?_,?_,o.setCell (p:=⟨G,1,none⟩) d _,d⟩⟩
 ·rw [dL,eA];exact zf zjc a (fun b hv hS=>by
   have:g=b:=by simpa [Value.ownBlock] using hv
   omega)
 ·refine m.frm a (fun i r b hr hb hS=>?_);obtain⟨u,_,q⟩:=m.row hr;exact zq q c dM hb hS
 ·exact zf n a (fun b hb hS=>zq n c dM hb hS)
theorem Gro.ao {x:Bool} (h:Gro w0 W G al v rows ls vA acc)
  (zjc:W'.ownsRow w0.heap.size 4 1 (.slice (some g) (acc.length+1) cap) (acc.length+1) (zaA acc++[.bool x]))
  (hg:W.grownBy W' vA.ownBlock) (hat:vA.ownBlock=some g∨g=W.heap.size+1) :
  Hid (W'.cell? ⟨G,2,none⟩=some vA)∧W'.frozen? ⟨G,2,none⟩=false∧Gro w0 (W'.setCell ⟨G,2,none⟩ (.slice (some g) (acc.length+1) cap)) G al v rows ls (.slice (some g) (acc.length+1) cap) (acc++[x]):=by
 have d:=h.hG;have c:Blk W' G 26 #[.int .i64 al,v,vA]:=(hg.block G h.blk.lt (fun e=>zq h.acc h.blk dM e.symm rfl)).trans h.blk;have q:g≠G:=by
  rcases hat with n|n
  ·exact zq h.acc h.blk dM n
  ·have:=h.blk.lt;omega
 have f:Frm (fun k=>vA.ownBlock=some k) W W':=Frm.ae hg;have l:=h.ext.grown hg (fun k hk=>(h.acc.lt k hk).1);have o:W'.ownsRow w0.heap.size 74 1 v ls.length rows:=zf h.nx f (fun b hb hS=>zaM h.nx h.acc dM hb hS);have j:zG W' w0.heap.size rows ls:=h.rows.frm f (fun i r b hr hb hS=>by
  obtain⟨s,_,m⟩:=h.rows.row hr;exact zaM m h.acc dM hb hS)
 have a:=dE W' G 2 (.slice (some g) (acc.length+1) cap);refine⟨c.cell 2,c.frozen 2,⟨by simpa using c.ab 2 _,zf o a (fun b hb hS=>zq o c dM hb hS),j.frm a (fun i r b hr hb hS=>?_),?_,l.setCell (p:=⟨G,2,none⟩) d _,d⟩⟩
 ·obtain⟨s,_,m⟩:=j.row hr;exact zq m c dM hb hS
 ·rw [dL,eA,show zaA (acc++[x])=zaA acc++[.bool x] by simp [zaA]];exact zf zjc a (fun b hv hS=>by
   have:g=b:=by simpa [Value.ownBlock] using hv
   omega)
theorem Gro.fin {W2:World}  (h:Gro w0 W G al (.slice A n c) rows ls (.slice A' n' c') acc)(hx:Ext w w0)(hF:Frm (fun k=>w.heap.size<=k∧k<w0.heap.size) W W2) :
  zX W2 w.heap.size A n c A' n' c' ⟨al,ls,acc⟩∧n=ls.length∧n'=acc.length:=by
 have f:n=ls.length:=by
  rcases h.nx.2 with ⟨a,h2⟩|⟨_,_,_,a,_⟩
  ·simp at a;omega
  ·simp at a;exact a.2.1
 have d:n'=acc.length:=by
  rcases h.acc.2 with ⟨a,h2⟩|⟨_,_,_,a,_⟩
  ·simp at a;omega
  ·simp at a;exact a.2.1
 refine⟨⟨⟨rows,?_,?_⟩,f,?_,d⟩,f,d⟩
 ·exact zn (zbd h.nx hF (fun b a e=>oM)) hx.size
 ·exact (h.rows.aq hF (fun b a e=>oM)).less hx.size
 ·have g:=zn (zbd h.acc hF (fun b a e=>oM)) hx.size;rw [← d] at g;exact g
end
def JoinOf (s:ByteArray) (ok:Bool) (l:List Int):Prop:=∀ r:List Nat,(∀ x∈r,x<100)->zcp r=s.data.toList->ok=true∧l=r.map fun x:Nat=>(x:Int)
def RetIntsX (s:ByteArray) (w:World) (e:Ending) (w':World):Prop:=∃ (A:Option Addr) (n c:Nat) (l:List Int) (ok:Bool),e=.returned (.tuple #[.slice A n c,.bool ok])∧n=l.length∧w'.ownsRow w.heap.size 3 1 (.slice A n c) n (ints l)∧n<=s.size+1∧Hid (JoinOf s ok l)∧Ext w w'
theorem zgL (h:l.map (fun x=>x.data.toList)=zcx 44 s.data.toList)(hne:s.data.toList≠[]) (hr:∀ x∈r,x<100)(hj:zcp r=s.data.toList):l.map (fun x=>x.data.toList)=r.map Lib.decDigits:=by
 cases r with
 |nil=>exact absurd hj.symm hne
 |cons x r=>rw [h,← hj,join_cut (hr x sM) (fun y hy=>hr y (by simp [hy]))]
theorem join_piece (h:l.map (fun x=>x.data.toList)=zcx 44 s.data.toList)(hne:s.data.toList≠[]) (hr:∀ x∈r,x<100)(hj:zcp r=s.data.toList)  (hy:l[k]?=some y):∃ x,r[k]?=some x∧x<100∧y.data.toList=Lib.decDigits x:=by
 have e:=congrArg (fun z:List (List UInt8)=>z[k]?) (zgL h hne hr hj);simp only [dQ,hy,gC] at e;cases hx:r[k]? with
 |none=>rw [hx] at e;cases e
 |some x =>
  rw [hx] at e;exact⟨x,rfl,hr x (cX hx),Option.some.inj e⟩
theorem join_size (h:l.map (fun x=>x.data.toList)=zcx 44 s.data.toList)(hne:s.data.toList≠[]) (hr:∀ x∈r,x<100)(hj:zcp r=s.data.toList):r.length=l.length:=by
 have:=congrArg iK (zgL h hne hr hj);simpa using this.symm
theorem yQ15a1 {P:Prop}(h:P:=by
 intro u
 induction u with
 |nil=>intro x hx;simp [zcx] at hx;simp [hx]
 |cons b t ih =>
  intro x hx;rw [zcx] at hx
  split at hx
  ·rcases List.mem_cons.1 hx with rfl|hx
   ·simp
   ·have:=ih x hx;simp;omega
  ·split at hx
   ·rw [List.mem_singleton.1 hx];simp
   ·rename_i h2 r2 hcut;rw [hcut] at ih;rcases List.mem_cons.1 hx with rfl|hx
    ·have:=ih h2 sM;simp;omega
    ·have:=ih x (by simp [hx]);simp;omega
 ):P:=h
theorem piece_size {c:UInt8} (h:l.map (fun x=>x.data.toList)=zcx c s.data.toList):∀ x∈l,x.size<=s.size:=by
 have a:∀ (u:List UInt8),∀ x∈zcx c u,x.length<=u.length:=by
  exact yQ15a1
 intro x hx;have:=a s.data.toList x.data.toList (by rw [← h];exact List.mem_map_of_mem hx);simpa using this
theorem zgS (h:s.toList.isEmpty=false):s.data.toList≠[]:=by
 rw [ByteArray.toList_eq] at h;intro e;rw [e] at h;cases h
theorem ziw (h:s.toList.isEmpty=true):s.data.toList=[]:=by
 rw [ByteArray.toList_eq] at h;exact List.isEmpty_iff.1 h
def RetAlX (x:ByteArray) (w:World) (e:Ending) (w':World):Prop:=∃ (a:Nat) (ok:Bool),e=.returned (.tuple #[a,.bool ok])∧a<64∧Hid (ok=true∧alX a=x.data.toList∨ok=false∧a=0∧∀ n<64,alX n≠x.data.toList)∧Ext w w'
def ParsX (x:ByteArray) (ok:Bool) (b:Aut):Prop:=ok=true∧zh b=true∧zfo b=x.data.toList∨ok=false∧b=⟨0,[],[]⟩∧∀ a,zh a=true->zfo a≠x.data.toList
def RetPX (x:ByteArray) (w:World) (e:Ending) (w':World):Prop:=
 ∃ (b:Aut) (A:Option Addr) (n c:Nat) (A':Option Addr) (n' c':Nat) (ok:Bool),e=.returned (.tuple #[.agg #[b.al,.slice A n c,.slice A' n' c'],.bool ok])∧zX w' w.heap.size A n c A' n' c' b∧Hid (ParsX x ok b)∧Ext w w'
theorem zgV (hd:Ext w W)(hZ:w.heap.size<=Z)(hn:∀ a,zh a=true->zfo a≠x.data.toList) :
  RetPX x w (.returned (.tuple #[.agg #[(0:Int),(),()],.bool false])) (((W.setCell Z (0:Int)).setCell ⟨Z,1,none⟩ ()).setCell ⟨Z,2,none⟩ ()):=
 ⟨⟨0,[],[]⟩,none,0,0,none,0,0,false,rfl,⟨⟨[],World.ownsRow_nil _ _ _ _,zG.nil _ _⟩,rfl,World.ownsRow_nil _ _ _ _,rfl⟩,za (.inr ⟨rfl,rfl,hn⟩),((hd.setCell (p:=⟨Z,0,none⟩) hZ _).setCell (p:=⟨Z,1,none⟩) hZ _).setCell (p:=⟨Z,2,none⟩) hZ _⟩
theorem zfC (h:l.map (fun x=>x.data.toList)=zcx 32 x.data.toList) (ha:zh a=true)(he:zfo a=x.data.toList):l.map (fun x=>x.data.toList)=alX a.al.toNat :: zdj a:=by
 rw [h,← he,txt_cut ha]
theorem txt_first (h:l.map (fun x=>x.data.toList)=zcx 32 x.data.toList)(h0:l[0]?=some x0) (ha:zh a=true)(he:zfo a=x.data.toList):x0.data.toList=alX a.al.toNat:=by
 have e:=congrArg (fun z:List (List UInt8)=>z[0]?) (zfC h ha he);simp only [dQ,h0,gC,gP,Option.some.injEq] at e;exact e
theorem txt_row (h:l.map (fun x=>x.data.toList)=zcx 32 x.data.toList) {i:Nat}(hi:1<=i)(h0:l[i]?=some y) (ha:zh a=true)(he:zfo a=x.data.toList):∃ r b,a.next[i - 1]?=some r∧a.acc[i - 1]?=some b∧RowS r∧y.data.toList=rowX b r:=by
 have e:=congrArg (fun z:List (List UInt8)=>z[i]?) (zfC h ha he);obtain⟨j,rfl⟩:∃ j,i=j+1:=⟨i - 1,oM⟩;simp only [dQ,h0,gC,List.getElem?_cons_succ] at e;unfold zdj at e;rw [dQ] at e;cases hz:(a.next.zip a.acc)[j]? with
 |none=>rw [hz] at e;cases e
 |some p =>
  rw [hz] at e;obtain⟨c,h2⟩:=List.getElem?_zip_eq_some.1 hz;refine⟨p.1,p.2,c,h2,((zaz ha).2.2.2.2.2 p.1 (cX c)).1,Option.some.inj e⟩
theorem txt_count (h:l.map (fun x=>x.data.toList)=zcx 32 x.data.toList) (ha:zh a=true)(he:zfo a=x.data.toList):l.length=a.next.length+1:=by
 have:=congrArg iK (zfC h ha he);have b:=(zaz ha).2.2.1;simp only [dO,eI,zdj,List.length_zip] at this;omega
theorem first_ne (h:l.map (fun x=>x.data.toList)=zcx 32 x.data.toList)(h0:l[0]?=some x0)(hx0:x0.data.toList≠[]):x.data.toList≠[]:=by
 intro e;rw [e] at h;have a:=congrArg (fun z:List (List UInt8)=>z[0]?) h;simp only [dQ,h0,gC,zcx,gP,Option.some.injEq] at a;exact hx0 a
theorem rest_list {b:UInt8} {r:List UInt8}(h:s.data.toList=b :: r):(s.extract 1 s.size).data.toList=r:=by
 have a:s.size=r.length+1:=by
  have:=congrArg iK h;simpa using this
 rw [zdd,h,a];simp
theorem head_sign {b:Bool} {r:List UInt8}(h:s.data.toList=(if b then 43 else 45) :: r)(h0:0<s.size):((s[0].toNat:Int)==43)=b:=by
 have a:=zbs s 0 h0;rw [h] at a;simp only [gP,Option.some.injEq] at a;rw [← a];cases b<;>rfl
theorem cast_row {r:List Int}(h:RowS r):(r.map iA).map (fun x:Nat=>(x:Int))=r:=by
 rw [fV];refine (gT fun q hq=>?_).trans (List.map_id r);have:=h q hq;show ((q.toNat:Nat):Int)=q;omega
def ParsC (x:ByteArray) (ok hd:Bool) (a:Aut) (t:ByteArray):Prop:=
 ok=true∧zC hd a t=true∧zgt hd a t=x.data.toList∨ok=false∧hd=false∧a=⟨0,[],[]⟩∧t=⟨#[]⟩∧∀ hd' a' t',zC hd' a' t'=true->zgt hd' a' t'≠x.data.toList
theorem ParsC.same {ok' hd':Bool} {a':Aut} {t':ByteArray}(h:ParsC x ok hd a t) (g:ParsC x ok' hd' a' t'):ok=ok'∧hd=hd'∧a=a'∧t=t':=by
 rcases h with ⟨i,h2,d⟩|⟨i,h2,d,o,p⟩<;>rcases g with ⟨f,b,c⟩|⟨f,b,c,m,n⟩
 ·obtain⟨j,k,l⟩:=cert_inj h2 b (d.trans c.symm);exact⟨i.trans f.symm,j,k,l⟩
 ·exact absurd d (n _ _ _ h2)
 ·exact absurd c (p _ _ _ b)
 ·exact⟨i.trans f.symm,h2.trans b.symm,d.trans c.symm,o.trans m.symm⟩
theorem zgn (hx:x.data.toList≠[])(h:zgt hd a t=x.data.toList):ParsC x true hd a t:=by
 refine .inl ⟨rfl,?_,h⟩;cases hv:zC hd a t with
 |true=>rfl
 |false =>
  unfold zgt at h;rw [hv] at h;exact absurd h.symm hx
theorem ziB (hc:∀ hd' a' t',zC hd' a' t'=true->zgt hd' a' t'=x.data.toList->hd=hd'∧a=a'∧t=t')(h:zgt hd a t≠x.data.toList):ParsC x false false ⟨0,[],[]⟩ ⟨#[]⟩:=
 .inr ⟨rfl,rfl,rfl,rfl,fun hd' a' t' hv he=>h (by
  obtain⟨e1,e2,e3⟩:=hc hd' a' t' hv he
  rw [e1,e2,e3]
  exact he)⟩
theorem pars_empty (hx:x.data.toList=[]):ParsC x false false ⟨0,[],[]⟩ ⟨#[]⟩:=
 .inr ⟨rfl,rfl,rfl,rfl,fun _ _ _ hv he=>cert_ne hv (he.trans hx)⟩
theorem empty_ba (h:t.toList.isEmpty=true):t=⟨#[]⟩:=empty_eq h (by rw [ByteArray.toList_eq];rfl)
theorem holds_cand {r:ByteArray}  {b:Aut}(hx:x.data.toList=zds++r.data.toList)(hp:ParsX r ok b):∀ hd' a' t',zC hd' a' t'=true->zgt hd' a' t'=x.data.toList->true=hd'∧b=a'∧(⟨#[]⟩:ByteArray)=t':=by
 intro hd a t hv he;unfold zgt at he;rw [if_pos hv,hx] at he;cases hd
 ·simp [zds,zdz] at he
 ·simp only [if_true] at he;have e:=List.append_cancel_left he;simp only [zC,if_true,dF] at hv;refine⟨rfl,?_,(empty_ba hv.2).symm⟩;rcases hp with ⟨-,h2,c⟩|⟨-,-,c⟩
  ·exact txt_inj h2 hv.1 (c.trans e.symm)
  ·exact absurd e (c a hv.1)
theorem zhM (hx:∀ r,x.data.toList≠zds++r)   (hv:zC hd a t=true)(he:zgt hd a t=x.data.toList):hd=false∧a=⟨0,[],[]⟩∧zaK t=true∧x.data.toList=zdz++zfD t:=by
 unfold zgt at he;rw [if_pos hv] at he;cases hd
 ·simp only [eX,if_false] at he;simp only [zC,eX,if_false,dF] at hv;exact⟨rfl,none_eq hv.1,hv.2,he.symm⟩
 ·simp only [if_true] at he;exact absurd he.symm (hx _)
theorem word_of {r:ByteArray}(hw:zaK t=true)(h:r.data.toList=zfD t):t=if r.data.toList=[45] then ⟨#[]⟩ else r:=by
 unfold zfD at h
 split at h
 ·rename_i he;rw [if_pos h];exact empty_ba he
 ·rename_i he;have a:¬ r.data.toList=[45]:=by rw [h];exact zhq hw
  rw [if_neg a];cases t;cases r;exact congrArg ByteArray.mk (Array.toList_inj.1 h.symm)
theorem zhL {r:ByteArray}(hx:∀ r,x.data.toList≠zds++r)(hr:∀ l,x.data.toList=zdz++l->r.data.toList=l)(ht:t=if r.data.toList=[45] then ⟨#[]⟩ else r):∀ hd' a' t',zC hd' a' t'=true->zgt hd' a' t'=x.data.toList->false=hd'∧(⟨0,[],[]⟩:Aut)=a'∧t=t':=by
 intro hd a t' hv he;obtain⟨b,h2,c,d⟩:=zhM hx hv he;exact⟨b.symm,h2.symm,ht.trans (word_of c (hr _ d)).symm⟩
theorem zgC {α β:Type} {f:α->List β} :∀ {l:List α},(∀ x∈l,(f x).length<=k)->(l.flatMap f).length<=l.length*k
 |[],_=>sM
 |x :: l,h=>by
  have h1:=h x sM
  have h2:=zgC (f:=f) (l:=l) (fun y hy=>h y (by simp [hy]))
  rw [List.flatMap_cons,dL,eI,Nat.succ_mul]
  omega
theorem alX_len (al:Nat):(alX al).length<=6:=by
 unfold alX;split
 ·simp
 ·rw [dO];exact zB al 6
theorem zgK (hr:∀ x∈r,x<100):(zcp r).length<=3*r.length:=by
 cases r with
 |nil=>simp [zcp]
 |cons x r =>
  have a:=dig_len (hr x sM);have h2:=zgC (f:=fun y=>44 :: Lib.decDigits y) (k:=3) (l:=r) (fun y hy=>by
   have:=dig_len (hr y (by simp [hy]));simp only [eI];omega)
  unfold zcp keyL;rw [dL,eI];omega
theorem row_len {b:Bool} {r:List Int}(hr:RowS r)(h6:r.length<=6):(rowX b r).length<=19:=by
 have:=zgK hr.nat;rw [dO] at this;unfold rowX;rw [eI];omega
theorem txtA_len (a:Aut):(zfo a).length<=300:=by
 unfold zfo;split
 ·rename_i h;obtain⟨-,-,h2,j,-,d⟩:=zaz h;have i:=alX_len a.al.toNat;have m:=zgC (f:=fun x=>(32:UInt8) :: x) (k:=20) (l:=zdj a) (fun x hx=>by
   obtain⟨p,g,rfl⟩:=List.mem_map.1 hx;have c:=d p.1 (List.of_mem_zip g).1;have:=row_len (b:=p.2) c.1 c.2;simp only [eI];omega)
  have c:(zdj a).length<=12:=by
   unfold zdj;rw [dO,List.length_zip];omega
  have:(zdj a).length*20<=12*20:=Nat.mul_le_mul_right 20 c;rw [dL];omega
 ·simp
theorem txtC_no (h:zC hd a s=false):zgt hd a s=[]:=by
 unfold zgt;rw [h];rfl
theorem txtC_holds (h:zC true a s=true):zgt true a s=zds++zfo a:=by
 unfold zgt;rw [if_pos h];rfl
theorem txtC_fails (h:zC false a s=true):zgt false a s=zdz++zfD s:=by
 unfold zgt;rw [if_pos h];rfl
theorem wordX_dash (h:s.toList.isEmpty=true):zfD s=[45]:=by
 unfold zfD;rw [h];rfl
theorem wordX_self (h:s.toList.isEmpty=false):zfD s=s.data.toList:=by
 unfold zfD;rw [h];rfl
def RetPC (x:ByteArray) (w:World) (e:Ending) (w':World):Prop:=
 ∃ (ok hd:Bool) (a:Aut) (A:Option Addr) (n c:Nat) (A':Option Addr) (n' c':Nat) (t:ByteArray),e=.returned (.tuple #[.agg #[.bool hd,a.al,.slice A n c,.slice A' n' c',t],.bool ok])∧zX w' w.heap.size A n c A' n' c' a∧Hid (ParsC x ok hd a t)∧Ext w w'
theorem ziC (hx:Ext w W)(hZ:w.heap.size<=Z)(hK:Z<K)(ho:zX W K A n c A' n' c' a)(hp:ParsC x ok hd a t) :
  Hid (RetPC x w (.returned (.tuple #[.agg #[.bool hd,a.al,.slice A n c,.slice A' n' c',t],.bool ok])) (((((W.setCell Z (.bool hd)).setCell ⟨Z,1,none⟩ a.al).setCell ⟨Z,2,none⟩ (.slice A n c)).setCell ⟨Z,3,none⟩ (.slice A' n' c')).setCell ⟨Z,4,none⟩ t)):=by
 have d:=zat W Z (.bool hd) (.int .i64 a.al) (.slice A n c) (.slice A' n' c') (.string t);exact za ⟨ok,hd,a,A,n,c,A',n',c',t,rfl,(ho.aq d (fun b h1 e=>by have f:b=Z:=e;omega)).less oM,za hp,hx.frm d (fun k hk e=>by have f:k=Z:=e;omega)⟩
theorem ziY {L:List UInt8}(h:(t.toList==x.toList)=true)(ht:t.data.toList=L):L=x.data.toList:=by
 rw [ByteArray.toList_eq,ByteArray.toList_eq,ht] at h;exact eq_of_beq h
theorem ziZ {L:List UInt8}(h:(t.toList==x.toList)=false)(ht:t.data.toList=L):L≠x.data.toList:=by
 intro e;rw [ByteArray.toList_eq,ByteArray.toList_eq,ht,e] at h;simp at h
theorem six_rest {P l:List UInt8}(hP:P.length=6)(h:x.data.toList=P++l):(x.extract 6 x.size).data.toList=l:=by
 have e:x.data.toList.length=x.size:=rfl;rw [zdd,dG (by rw [List.length_drop,e];omega),h,← hP,List.drop_left]
theorem six_head {P l:List UInt8}(hP:P.length=6)(h:x.data.toList=P++l):(x.extract 0 6).data.toList=P:=by
 rw [zdd,h,jF,Nat.sub_zero,← hP,List.take_left]
theorem six_join {P:List UInt8}(h:(x.extract 0 6).data.toList=P):x.data.toList=P++(x.extract 6 x.size).data.toList:=by
 have e:x.data.toList.length=x.size:=rfl;rw [← h,zdd,zdd,jF,Nat.sub_zero,dG (l:=x.data.toList.drop 6) (by rw [List.length_drop,e];omega),List.take_append_drop]
theorem lbs_text {o:List Nat}(h:∀ l∈o,l<6):(strOfNums (lbs o)).data.toList=o.map fun l=>UInt8.ofNat (97+l):=by
 unfold strOfNums lbs;simp only [fV];refine gT fun l hl=>?_;have:l<6:=h l hl;show UInt8.ofNat ((97+l:Nat):Int).toNat=UInt8.ofNat (97+l);rw [Int.toNat_natCast]
theorem zcm {a:Nat} (ha:a<64) :
  Calls Tryz.prog 51 #[a] w (RetTx (alX a) w):=by
 have y:Sm a:=tM;have L:=za (show decide (0<=(a:Int)∧(a:Int)<=63)=true by simp;omega)
 by_cases h0:a=0
 ·subst h0;rw [show ((0:Nat):Int)=0 from rfl];have r:=za (show decide ((0:Int)<=0∧(0:Int)<=63)=true by decide)
  go_enter Tryz.func51,Tryz.ntmps51
  go_wp2_with (go_at_call 54;refine (zY _ _).mono ?_;rw [r.out];rintro e H ⟨rfl,rfl⟩)
  go_ret;exact⟨_,rfl,za rfl,cW _⟩
 ·have J:((a:Int)==0)=false:=by simp;omega
  have h:=za (show alX a=(letters a 6).map (fun l=>UInt8.ofNat (97+l)) by unfold alX;rw [if_neg h0])
  go_enter Tryz.func51,Tryz.ntmps51
  go_wp2_with fail
  refine (zY _ _).mono ?_;rw [L.out];rintro e H ⟨rfl,rfl⟩;go_wp2_with fail
  refine (zbr a y _).mono ?_;rintro e C ⟨B,d,rfl,o,z⟩;have M:=zB a 6;have m:=za (fun k (F:k∈letters a 6)=>(zbi.1 F).1);have u:=za (show letters a 6≠[] from fun e=>al_ne ha (by rw [h.out,e];rfl));have x:=Reads.af o;clear o;generalize letters a 6=b at *;go_wp2_with fail
  go_loopw [3,5,14] (fun v _ i wr=>∃ k:Nat,k<=b.length∧i=.int .i64 k∧wr.ownsRow C.heap.size 5 1 v k (u8s (lbs (b.take k)))∧Ext C wr) (fun _ _ i _=>b.length - (intOf i).toNat)
  case atStart=>exact⟨0,dD _,rfl,World.ownsRow_nil _ _ _ _,cW _⟩
  case round =>
   obtain⟨k,F,rfl,c,f⟩:=hrel;obtain⟨I,p,rfl⟩:=zi c
   by_cases hlt:k<b.length
   ·obtain⟨Q,l,rfl,_,_,G,O⟩:=(x.ext f).nat hlt;have j:=m.out l (cX G.out);go_wp2_with (first
     |(go_at_call 105;refine (zeh j _).mono ?_;rintro e H ⟨rfl,rfl⟩)
     |(at_builtin;refine zL C wr rfl _ _ _ rfl 5 _ 1 1 Tryz.underlying22 ziu rfl dM (.slice I k p) _ _ _ _ rfl rfl f c rfl (zgg _) lM oM ?_;intro v' w5 hext5 zjo hg5 hat5))
    go_roundw
    case rel=>exact⟨k+1,oM,gM,by rw [dH,G.out];simpa [u8s,lbs] using zjo,aM⟩
    case measure=>simp [intOf];omega
   ·obtain rfl:k=b.length:=oM;have n:=List.length_pos_iff.2 u.out;obtain⟨g,rfl,-,-⟩:=zac c n;have D:=Holds.own8 c;rw [eC] at D;have q:∀ W,Ext wr W->(convert 22 9 (.slice (some g) b.length p)).run Tryz.prog W=.ok (.string (strOfNums (lbs b))) W:=fun W hW =>
     run_convert_bytes_arg (P:=Tryz.prog) _ 22 5 u8_row u8_und g 0 b.length p (lbs b) (by simp [lbs]) (fun i hi=>by
      have h2:=(D i (by simpa [lbs] using hi)).1;refine hW.aa (h2.trans ?_);have s:i<(lbs b).length:=by simpa [lbs] using hi
      have t:i<(lbs b).toArray.size:=by simpa [lbs] using hi
      rw [getElem!_pos (lbs b).toArray i t];simp [zhv,List.getD,dC s]) _ zhn
    have E:=q _ (cW _);go_wp2_with fail
    go_ret;exact⟨_,rfl,za (by rw [h.out];exact lbs_text m.out),z.trans f⟩
def alF (u:List UInt8):Nat:=u.foldl (fun a b=>if 97<=b.toNat∧b.toNat<=102 then a|||2 ^ (b.toNat - 97) else a) 0
theorem alF_snoc (u:List UInt8) (b:UInt8):alF (u++[b])=if 97<=b.toNat∧b.toNat<=102 then alF u|||2 ^ (b.toNat - 97) else alF u:=by simp [alF,List.foldl_append]
theorem pow6 {l:Nat}(h:l<6):2 ^ l<64:=by
 have:∀ l<6,2 ^ l<64:=dM;exact this l h
theorem or64 {a:Nat}(ha:a<64)(hb:b<64):a|||b<64:=Nat.or_lt_two_pow (n:=6) ha hb
theorem alF_alX:∀ n<64,alF (alX n)=n:=by decide +kernel
theorem ltr_yes (h:97<=b∧b<=102):ltr (b:Int)=((b - 97:Nat):Int):=by
 unfold ltr;rw [if_neg oM];omega
theorem ltr_no (h:¬ (97<=b∧b<=102)):ltr (b:Int) = -1:=by
 unfold ltr;rw [if_pos oM]
theorem pow_wrap:∀ l<6,wrap64 ((2:Int) ^ l)=((2 ^ l:Nat):Int):=by decide +kernel
theorem zez (hx:x.size<=2000000) :
  Calls Tryz.prog 65 #[x] w (RetAlX x w):=by
 have C:=za hx
 go_enter Tryz.func65,Tryz.ntmps65
 go_wp2_with fail
 go_loopw [4,5,6,9] (fun v _ _ i wr=>∃ (k a:Nat),k<=x.size∧i=.int .i64 k∧v=.int .i64 a∧a<64∧Hid (a=alF (x.data.toList.take k))∧wr=w) (fun _ _ _ i _=>x.size - (intOf i).toNat)
 case atStart=>exact⟨0,0,dD _,rfl,rfl,oM,za rfl,rfl⟩
 case round =>
  obtain⟨k,a,E,rfl,rfl,o,d,rfl⟩:=hrel
  by_cases hlt:k<x.size
  ·have y:(k:Int)<(x.size:Int):=oM;have j:=za (show x.data.toList.take (k+1)=x.data.toList.take k++[x[k]] by
    rw [dH,zbs x k hlt];rfl)
   by_cases hb:97<=x[k].toNat∧x[k].toNat<=102
   ·have p:=ltr_yes hb;have f:x[k].toNat - 97<6:=oM;have c:=za (show a|||2 ^ (x[k].toNat - 97)=alF (x.data.toList.take (k+1)) by rw [j.out,alF_snoc,if_pos hb,d.out]);have s:=zbz (a:=a) (b:=2 ^ (x[k].toNat - 97)) tM (by have:=pow6 f;unfold Sm;omega);have g:=or64 o (pow6 f);generalize x[k].toNat - 97=l at *;have z:min l 64=l:=oM;go_wp2_with (go_at_call 110;refine (zaI x k hlt _).mono ?_;rw [p];rintro e D ⟨rfl,rfl⟩)
    go_roundw
    case rel=>exact⟨k+1,a|||2 ^ l,oM,gM,by rw [pow_wrap _ f,s],g,c,trivial⟩
    case measure=>simp [intOf];omega
   ·have p:=ltr_no hb;have c:=za (show a=alF (x.data.toList.take (k+1)) by rw [j.out,alF_snoc,if_neg hb,d.out]);go_wp2_with (go_at_call 110;refine (zaI x k hlt _).mono ?_;rw [p];rintro e D ⟨rfl,rfl⟩)
    go_roundw
    case rel=>exact⟨k+1,a,oM,gM,rfl,o,c,trivial⟩
    case measure=>simp [intOf];omega
  ·obtain rfl:k=x.size:=oM;have u:=za (show a=alF x.data.toList by
    have e:x.data.toList.take x.size=x.data.toList:=dG (cY _);rw [d.out,e])
   go_wp2_with fail
   refine (zcm o).mono ?_;rintro e F ⟨t,rfl,B,m⟩;cases hxt:t.toList==x.toList
   ·have r:=za (show ∀ n<64,alX n≠x.data.toList from fun n hn h=>by
     rw [ByteArray.toList_eq,ByteArray.toList_eq,B.out] at hxt;have e:a=n:=by rw [u.out,← h,alF_alX n hn]
     rw [e,h] at hxt;simp at hxt)
    go_wp2_with fail
    go_ret2;exact⟨0,false,rfl,oM,za (.inr ⟨rfl,rfl,r.out⟩),m⟩
   ·have q:=za (show alX a=x.data.toList by
     rw [ByteArray.toList_eq,ByteArray.toList_eq,B.out] at hxt;exact eq_of_beq hxt)
    go_wp2_with fail
    go_ret2;exact⟨a,true,rfl,o,za (.inl ⟨rfl,q.out⟩),m⟩
section
open Go.Lib Go.Shelf
def zgN:Go.Shelf.Ren:=⟨fun|156=>53|165=>107|166=>108|169=>109|240=>151|241=>152|276=>179|277=>180|n=>n,fun|31=>61|9=>9|3=>3|4=>4|0=>0|20=>20|72=>119|76=>123|70=>117|37=>22|75=>122|127=>154|164=>185|5=>5|80=>125|n=>n,fun|n=>n⟩
theorem layJoin:Go.Proofs.Lays.n156 Tryz.prog zgN where
 mixed:=kM
 f156:=Tryz.func53.trans (congrArg some kM)
 f165:=Tryz.func107.trans (congrArg some kM)
 f166:=Tryz.func108.trans (congrArg some kM)
 f169:=Tryz.func109.trans (congrArg some kM)
 f240:=Tryz.func151.trans (congrArg some kM)
 f241:=Tryz.func152.trans (congrArg some kM)
 f276:=Tryz.func179.trans (congrArg some kM)
 f277:=Tryz.func180.trans (congrArg some kM)
 t0:=Tryz.underlying0
 a0:=Tryz.isAgg0
 z0:=Tryz.sizeOf0
 v0:=Tryz.zeroValue0
 t3:=Tryz.underlying3
 a3:=Tryz.isAgg3
 z3:=Tryz.sizeOf3
 v3:=Tryz.zeroValue3
 t4:=Tryz.underlying4
 a4:=Tryz.isAgg4
 z4:=Tryz.sizeOf4
 v4:=Tryz.zeroValue4
 t9:=Tryz.underlying9
 a9:=Tryz.isAgg9
 z9:=Tryz.sizeOf9
 v9:=Tryz.zeroValue9
 t20:=Tryz.underlying20
 a20:=Tryz.isAgg20
 z20:=Tryz.sizeOf20
 v20:=Tryz.zeroValue20
 t31:=Tryz.underlying61
 a31:=Tryz.isAgg61
 z31:=Tryz.sizeOf61
 v31:=Tryz.zeroValue61
 t37:=Tryz.underlying22
 a37:=Tryz.isAgg22
 z37:=Tryz.sizeOf22
 v37:=Tryz.zeroValue22
 t70:=Tryz.underlying117
 a70:=Tryz.isAgg117
 z70:=Tryz.sizeOf117
 v70:=Tryz.zeroValue117
 t72:=Tryz.underlying119
 a72:=Tryz.isAgg119
 z72:=Tryz.sizeOf119
 v72:=Tryz.zeroValue119
 t75:=Tryz.underlying122
 a75:=Tryz.isAgg122
 z75:=Tryz.sizeOf122
 v75:=Tryz.zeroValue122
 t76:=Tryz.underlying123
 a76:=Tryz.isAgg123
 z76:=Tryz.sizeOf123
 v76:=Tryz.zeroValue123
 t127:=Tryz.underlying154
 a127:=Tryz.isAgg154
 z127:=Tryz.sizeOf154
 v127:=Tryz.zeroValue154
 t164:=Tryz.underlying185
 a164:=Tryz.isAgg185
 z164:=Tryz.sizeOf185
 v164:=Tryz.zeroValue185
theorem layJoinX:Builder.Extra Tryz.prog zgN where
 sizeBuilder:=kM
 liesBuilder:=kM
 t5:=Tryz.underlying5
 a5:=Tryz.isAgg5
 z5:=Tryz.sizeOf5
 v5:=Tryz.zeroValue5
 infoByte:=kM
 cellsByte:=kM
 sizeByte:=kM
 neB5:=dM
end
theorem join_dig:∀ r:List Nat,Lib.join (r.map Lib.decDigits) [44]=zcp r
 |[]=>rfl
 |x :: r=>by
  rw [List.map_cons,Lib.join_cons]
  show _=keyL Lib.decDigits x r
  unfold keyL Lib.joinTail
  rw [fV,List.flatMap_def]
  rfl
theorem zgv (hn:n<100):Lib.atoiAll (Lib.decDigits n)=.ok (n:Int):=by
 have a:∀ n<10,Lib.atoiAll [UInt8.ofNat (48+n)]=.ok ((n:Nat):Int):=by decide +kernel
 have h2:∀ n<100,¬ n<10->Lib.atoiAll [UInt8.ofNat (48+n / 10),UInt8.ofNat (48+n % 10)]=.ok ((n:Nat):Int):=by decide +kernel
 by_cases h:n<10
 ·rw [Lib.decDigits_one h];exact a n h
 ·rw [Lib.decDigits_two h hn];exact h2 n hn h
section
open Go.Lib Go.Shelf
def digS (l:List Int):List ByteArray:=l.map fun q=>⟨(Lib.decDigits q.toNat).toArray⟩
theorem digS_bytes (l:List Int):(digS l).map (fun x=>x.data.toList)=(l.map iA).map Lib.decDigits:=by
 unfold digS;rw [fV,fV];refine gT fun q _=>?_;simp
theorem digS_join (l:List Int):Lib.join ((digS l).map (·.data.toList)) (⟨#[44]⟩:ByteArray).data.toList=zcp (l.map iA):=by
 rw [digS_bytes];exact join_dig _
theorem own_capJ (h:w.ownsRow base e 1 (.slice (some g) n cap) n xs)(hn:0<n):n<=cap:=by
 rcases h.2 with ⟨a,l⟩|⟨k,d,f,a,m,o,b,i,j,c⟩
 ·omega
 ·simp only [Value.slice.injEq,Option.some.injEq,Addr.mk.injEq,and_true,true_and] at a;obtain⟨rfl,rfl⟩:=a;exact b
theorem lib_Join {l:List Int}(hl:l.length<=100)(hr:∀ q∈l,0<=q∧q<100)(h:w.ownsRow base 9 1 (.slice A n cap) n (zM (digS l))) :
  Calls Tryz.prog 53 #[.slice A n cap,.string ⟨#[44]⟩] w (RetTx (zcp (l.map iA)) w):=by
 have f:l.length=n:=by have:=h.1;simpa [zM,digS] using this
 have d:=digS_join l;rcases Nat.eq_zero_or_pos n with c|c
 ·subst c;have k:l=[]:=List.eq_nil_of_length_eq_zero f;subst k;have b:=Any.strings_Join_none layJoin layJoinX A cap ⟨#[44]⟩ w;change Calls Tryz.prog 53 _ _ _ at b;refine b.mono ?_;rintro e s ⟨rfl,rfl⟩;exact⟨_,rfl,za rfl,cW _⟩
 ·obtain⟨g,rfl,-,m⟩:=zac h c;have a:(digS l).length=n:=by unfold digS;rw [dO,f]
  have o:(zcp (l.map iA)).length<=300:=by
   have:=zgK (r:=l.map iA) (fun x hx=>by
    obtain⟨q,p,rfl⟩:=List.mem_map.1 hx;have:=hr q p;omega)
   rw [dO] at this;omega
  have b:=Any.strings_Join layJoin layJoinX g 0 cap (digS l) ⟨#[44]⟩ w (fun j x hx=>by
   have d:j<n:=by rw [← a];exact (List.getElem?_eq_some_iff.1 hx).1
   rw [Nat.zero_add,h.cellAt j oM];simp [zM,hx]) m oM (by rw [a];exact own_capJ h c) (by rw [d];omega)
  rw [d,a] at b;change Calls Tryz.prog 53 _ _ _ at b;refine b.mono (mQ fun s i=>?_);exact⟨_,rfl,za sM,Ext.av i⟩
end
section
open Go.Lib
theorem itoa_small (i:Nat)(h:i<100) (w:World) :
  Calls Tryz.prog 175 #[i] w fun e w'=>e=.returned (.string ⟨(Lib.decDigits i).toArray⟩)∧w=w':=by
 go_enter Tryz.func175,Tryz.ntmps175
 go_name_bytes_deep 45 SM hSM
 have b:SM=Lib.smalls:=by rw [← hSM];decide +kernel
 subst b;clear hSM
 go_name_bytes_deep 30 DG hDG
 have a:DG=Lib.digits36:=by rw [← hDG];decide +kernel
 subst a;clear hDG
 by_cases h10:i<10
 ·have c:∀ w,(Instr.slice 9 (.string Lib.digits36) (some (.int .i64 (i:Int))) (some (.int .i64 ((i:Int)+1))) none).run Tryz.prog w=.ok (.string (Lib.digits36.extract i (i+1))) w:=fun w=>by
   rw [run_slice_string w 9 Lib.digits36 .i64 .i64 _ _ Tryz.underlying9 oM oM (by rw [Lib.digits36_size];omega),show ((i:Int)).toNat=i by omega,show ((i:Int)+1).toNat=i+1 by omega]
  go_wp2;go_ret;refine⟨?_,rfl⟩;show Ending.returned (Value.string (Lib.digits36.extract i (i+1)))=_;rw [AnyPlain.small_ba (Lib.digits36.extract i (i+1)) (Lib.decDigits i) (by rw [Lib.extract_data];exact Lib.digits36_piece h10)]
 ·have c:∀ w,(Instr.slice 9 (.string Lib.smalls) (some (.int .i64 ((i:Int)*2))) (some (.int .i64 ((i:Int)*2+2))) none).run Tryz.prog w=.ok (.string (Lib.smalls.extract (i*2) (i*2+2))) w:=fun w=>by
   rw [run_slice_string w 9 Lib.smalls .i64 .i64 _ _ Tryz.underlying9 oM oM (by rw [Lib.smalls_size];omega),show ((i:Int)*2).toNat=i*2 by omega,show ((i:Int)*2+2).toNat=i*2+2 by omega]
  go_wp2;go_ret;refine⟨?_,rfl⟩;show Ending.returned (Value.string (Lib.smalls.extract (i*2) (i*2+2)))=_;rw [AnyPlain.small_ba (Lib.smalls.extract (i*2) (i*2+2)) (Lib.decDigits i) (by rw [Lib.extract_data];exact Lib.smalls_piece h10 h)]
theorem itoa_format (i:Nat)(h:i<100) (w:World) :
  Calls Tryz.prog 150 #[i,(10:Int)] w fun e w'=>e=.returned (.string ⟨(Lib.decDigits i).toArray⟩)∧w=w':=by
 have a:=za (itoa_small i h);have b:(0:Int)<=(i:Int)∧(i:Int)<100:=oM
 go_enter Tryz.func150,Tryz.ntmps150
 go_wp2_with (go_at_call 175;refine (a.out _).mono ?_;rintro e c ⟨rfl,rfl⟩)
 go_ret;exact⟨rfl,rfl⟩
theorem itoa_in (i:Nat)(h:i<100) (w:World) :
  Calls Tryz.prog 106 #[i] w fun e w'=>e=.returned (.string ⟨(Lib.decDigits i).toArray⟩)∧w=w':=by
 go_enter Tryz.func106,Tryz.ntmps106
 go_wp2_with (go_at_call 150;refine (itoa_format i h _).mono ?_;rintro e a ⟨rfl,rfl⟩)
 go_ret;exact⟨rfl,rfl⟩
theorem lib_Itoa (i:Nat)(h:i<100) (w:World) :
  Calls Tryz.prog 52 #[i] w fun e w'=>e=.returned (.string ⟨(Lib.decDigits i).toArray⟩)∧w=w':=by
 go_enter Tryz.func52,Tryz.ntmps52
 go_wp2_with (go_at_call 106;refine (itoa_in i h _).mono ?_;rintro e a ⟨rfl,rfl⟩)
 go_ret;exact⟨rfl,rfl⟩
end
theorem zit (s:ByteArray) (w:World):Calls Tryz.prog 23 #[s] w fun e w'=>(∃ t:ByteArray,e=.returned (.string t)∧Hid (t.data.toList=zfD s)∧t.size<=s.size+1)∧w=w':=by
 cases he:s.toList.isEmpty
 ·have a:=za (wordX_self he)
  go_enter Tryz.func23,Tryz.ntmps23
  go_wp2;go_ret;exact⟨⟨_,rfl,za a.out.symm,oM⟩,rfl⟩
 ·have a:=za (wordX_dash he)
  go_enter Tryz.func23,Tryz.ntmps23
  go_wp2;go_ret;exact⟨⟨_,rfl,za a.out.symm,Nat.le_add_left _ _⟩,rfl⟩
theorem made_s (n:Nat):(madeCells (Value.string ⟨#[]⟩).cells (n*1)).toList=zM (dN n ⟨#[]⟩):=by
 simp [Value.cells,toList_madeCells_one,zM]
theorem fill_s {ds:List ByteArray}  {v:ByteArray}(hk:ds.length=k)(hm:k<m):(zM (ds++dN (m - k) ⟨#[]⟩)).set k (.string v)=zM ((ds++[v])++dN (m - (k+1)) ⟨#[]⟩):=by
 have e:∀ (R:List ByteArray) (i:Nat),zM (R.set i v)=(zM R).set i (.string v):=fun R i=>by simp [zM,List.map_set]
 rw [← e,List.set_append_right _ _ oM,hk,eW,show m - k=(m - (k+1))+1 by omega,List.replicate_succ,List.set_cons_zero,gO];rfl
theorem digS_take {l:List Int} {u:Nat}(h:l[k]?=some (u:Int)):digS (l.take (k+1))=digS (l.take k)++[⟨(Lib.decDigits u).toArray⟩]:=by
 unfold digS;rw [dH,h,List.map_append];rfl
theorem zcb {hi:Nat}      (h:zI w lo hi A n A' n' a) :
  Calls Tryz.prog 22 #[.agg #[a.al,.slice A n c,.slice A' n' c']] w (RetTx (zfo a) w):=by
 have HV:=za (fun W (hW:Ext w W)=>zF lo hi A n c A' n' c' a W ⟨h.1.ext hW,h.2.1,h.2.2.ext hW⟩);cases y:zh a
 ·have H1:=za y;have HX:=za (show zfo a=[] by unfold zfo;rw [y];rfl);clear y h
  go_enter Tryz.func22,Tryz.ntmps22
  go_wp2_with (go_at_call 24;refine (HV.out _ ((cW _).alloc _)).mono ?_;rw [H1.out];rintro e w1 ⟨rfl,hx⟩)
  go_ret;exact⟨_,rfl,za HX.out.symm,((cW _).alloc _).trans hx⟩
 ·have HX:=za (show zfo a=alX a.al.toNat++(zdj a).flatMap (32 :: ·) by unfold zfo;rw [y];rfl);have O:=za (zaz y);obtain⟨al,ha,ah,aq,ar,ai,H⟩:=zfG y;have H1:=za y;have Hn:=za h.n1;have aO:=za h.n2;have Ha:=za ha;have HS:=za (fun W (hW:Ext w W)=>h.1.ext hW);have HB:=za (fun W (hW:Ext w W)=>h.2.2.ext hW);have e1:n=n':=by have:=h.n1;have:=h.n2;omega
  subst e1;have aU:n<=12:=oH h.n1;clear y ha aq ar ai H h
  go_enter Tryz.func22,Tryz.ntmps22
  go_wp2_with fail
  refine (HV.out _ ((cW _).alloc _)).mono ?_;rw [H1.out];rintro e w1 ⟨rfl,hx⟩;have b1:=zaV hx;rw [Ha.out] at b1;have J:=((cW w).alloc _).trans hx;have cb:=b1.cells;have aw:=cW w1;clear hx;go_wp2_with fail
  refine (zcm ah).mono ?_;rintro e w2 ⟨t2,rfl,B,ab⟩;have S:al=a.al.toNat:=oH Ha.out;rw [S] at B;have ax:t2.size<=6:=by
   rw [tx_size B.out];exact alX_len _
  clear S;go_wp2_with fail
  go_loopw [3,4,5,6,7,8,9,19] (fun v _ _ _ _ _ _ i wr=>∃ (k:Nat) (t:ByteArray),k<=n∧i=.int .i64 k∧v=.string t∧t.size<=20+100*k∧Hid (t.data.toList=alX a.al.toNat++((zdj a).take k).flatMap (32 :: ·))∧Ext w1 wr) (fun _ _ _ _ _ _ _ i _=>n - (intOf i).toNat)
  case atStart=>exact⟨0,t2,dD _,rfl,rfl,oM,za (by rw [B.out];simp),ab⟩
  case round =>
   clear ab B aw ax;obtain⟨k,t,hk,rfl,rfl,ht,Z,b⟩:=hrel;have Q:=cb wr b
   by_cases hlt:k<n
   ·obtain⟨ad,Ak,ck,l,rfl,_,_,hl,T,Y⟩:=(HS.out wr (J.trans b)).row hlt;obtain⟨aP,x,rfl,_,_,aj,E⟩:=(HB.out wr (J.trans b)).bool hlt;have d:=za (O.out.2.2.2.2.2 l (cX hl.out));have ao:l.length<=6:=d.out.2;have D:=za (fun W (hW:Ext wr W)=>Y.ext hW);have M:=za (fun W (hW:Ext wr W)=>cb W (b.trans hW));have C:=za (fun W (hW:Ext wr W)=>hW.aa E);have ag:=za (rowsX_take hl.out aj.out);obtain⟨r,f⟩:∃ r,Hid (l.length=r):=⟨_,za rfl⟩;rw [f.out] at ao T;clear Y E;go_upto_region 8 with (at_make;refine zbD wr wr rfl _ _ 61 rfl 9 _ 1 16 Tryz.underlying61 zo _ _ r rfl rfl (cW _) oM lM ?_;intro w3 hx3 zjn hx13 hsz3)
    rw [made_s] at zjn;clear hx13;obtain⟨g,hg⟩:∃ g,Hid (g=wr.heap.size):=⟨_,za rfl⟩;rw [← hg.out] at zjn ⊢;obtain⟨wK,aa⟩:∃ wK,wK=wr:=⟨_,rfl⟩;rw [← aa] at D M C hx3 b hg;clear aa Q T hsz3;go_wp2_with fail
    go_loopw [7,8,29] (fun _ _ jv wr=>∃ (j:Nat),j<=r∧jv=.int .i64 j∧Hid (wr.ownsRow g 9 1 (.slice (some g) r r) r (zM (digS (l.take j)++dN (r - j) ⟨#[]⟩)))∧Ext wK wr) (fun _ _ jv _=>r - (intOf jv).toNat)
    case atStart=>exact⟨0,dD _,rfl,za (by simpa [digS] using zjn),hx3⟩
    case round =>
     clear zjn hx3;obtain⟨j,hj,rfl,s,o⟩:=hrel
     by_cases hjl:j<r
     ·obtain⟨aQ,q,rfl,-,-,X,aS⟩:=(D.out wr o).int (k:=j) (by rw [f.out];exact hjl);obtain⟨au,av⟩:=d.out.1 q (cX X.out);obtain⟨u,rfl⟩:∃ u:Nat,q=u:=⟨q.toNat,oM⟩;have hu:u<100:=oM;have U:(digS (l.take j)).length=j:=by unfold digS;rw [dO,List.length_take,f.out];omega
      obtain⟨o0,g0⟩:=zaX s.out j oM;have f0:=s.out.frozenAt j;have I:=(s.out.stored j (.string ⟨(Lib.decDigits u).toArray⟩)).1;rw [fill_s U hjl,← digS_take X.out] at I;have R:=za I;have V:=hg.out;have F:=o.setCell (p:=⟨g,j,none⟩) (by rw [V];exact cY _) (.string ⟨(Lib.decDigits u).toArray⟩);clear I U au av V;go_wp2_with (go_at_call 52;refine (lib_Itoa u hu _).mono ?_;rintro e w' ⟨rfl,rfl⟩)
      go_roundw
      case rel=>exact⟨j+1,oM,gM,R,F⟩
      case measure=>simp [intOf];omega
     ·obtain rfl:j=r:=oM;have G:=za (show wr.ownsRow g 9 1 (.slice (some g) j j) j (zM (digS l)) by
       have:=s.out;rwa [eW,List.replicate_zero,List.append_nil,← f.out,eC,f.out] at this)
      have Q:=M.out wr o;have E:=C.out wr o;have am:=za (fun (m:ByteArray) (hm:m.data.toList=[32,if x then 43 else 45]) (z:ByteArray) (L:z.data.toList=zcp (l.map iA))=>show (t++(m++z)).data.toList=alX a.al.toNat++((zdj a).take (k+1)).flatMap (32 :: ·) from by
       rw [tx_app rfl (tx_app hm L),Z.out,ag.out,gO];unfold rowX
       simp)
      have an:=za (fun (z:ByteArray) (L:z.data.toList=zcp (l.map iA))=>show z.size<=18 from by
       rw [tx_size L];have:=zgK d.out.1.nat;have h2:=d.out.2;rw [dO] at this;omega)
      clear s D C;go_upto_if 44 with fail
      go_cut [9] (fun s9 wx=>∃ m:ByteArray,s9=.string m∧m.size=2∧Hid (m.data.toList=[32,if x then 43 else 45])∧wx=wr)
      case first =>
       cases x
       ·go_wp2_with fail
        go_meet;exact⟨{ data:=#[32,45] },rfl,rfl,za rfl,rfl⟩
       ·go_wp2_with fail
        go_meet;exact⟨{ data:=#[32,43] },rfl,rfl,za rfl,rfl⟩
      case rest =>
       obtain⟨m,rfl,aT,ap,rfl⟩:=hcut;go_wp2_with fail
       refine (lib_Join (oH d.out.2) d.out.1 G.out).mono ?_;rintro e w4 ⟨z,rfl,L,ay⟩;have aI:=an.out z L.out;have q0:¬ 9223372036854775807<m.size+z.size:=oM;have q1:¬ 9223372036854775807<t.size+(m.size+z.size):=oM;go_wp2_with fail
       go_roundw
       case rel=>exact⟨k+1,_,oM,gM,rfl,by rw [ByteArray.size_append,ByteArray.size_append];omega,za (am.out m ap.out z L.out),(b.trans o).trans ay⟩
       case measure=>simp [intOf];omega
   ·obtain rfl:k=n:=oM;have aB:=za (show (zdj a).take k=zdj a from by
     refine dG ?_;have y:=O.out.2.2.1;have h2:=Hn.out;unfold zdj;rw [dO,List.length_zip];omega)
    go_wp2_with fail
    go_ret;exact⟨t,rfl,za (by rw [HX.out,Z.out,aB.out]),J.trans b⟩
def zhI (B:Nat) (o:Loop) (W:World):Prop:=W.heap[B+1]?=some (.loop o)∧W.heap[B]?=some (.deferred (some []))
section
variable {W W':World} {B b:Nat} {o o':Loop}
theorem heap_set {x:Obj} (v:Value)(hk:W.heap[k]?=some x)(hb:k≠b):(W.setCell b v).heap[k]?=some x:=
 ((dE W b 0 v).block k (Array.getElem?_eq_some_iff.1 hk).1 hb).trans hk
theorem zhI.set (h:zhI B o W)(hb:b<B) (v:Value):zhI B o (W.setCell b v):=⟨heap_set v h.1 oM,heap_set v h.2 oM⟩
theorem zhI.walk {row:Option Nat}(h:zhI B o W)(hg:W.grownBy W' row)(hr:∀ r,row=some r->∃ x:Obj,W.heap[r]?=some x∧x.isWalk=true):zhI B o W':=
 ⟨(grownBy_keeps hg hr h.1 rfl).trans h.1,(grownBy_keeps hg hr h.2 rfl).trans h.2⟩
theorem zhI.kept (h:zhI B o W)(hk:KeepsOthers W W'):zhI B o W':=⟨hk.same _ _ h.1 rfl,hk.same _ _ h.2 rfl⟩
theorem zhI.put (h:zhI B o W) (o':Loop):zhI B o' (W.putObj (B+1) (.loop o')):=
 ⟨World.putObj_heap_same (Array.getElem?_eq_some_iff.1 h.1).1,(World.putObj_heap_other oM).trans h.2⟩
end
def zic {β:Type} (b:Nat) (J:β->World->Prop):Prop:=∀ s W v,J s W->J s (W.setCell b v)
def SeqCell {α:Type} (F:Fence) (n:Nat) (P:Program) (g:Nat) (lb:Array Value) (enc:α->Value) (Kp:World->World->Prop) (S Sp:List α->Prop) (b:Nat) (w:World):Prop:=
 ∀ (l:Nat) (J Jx:List α->World->Prop) (W:World),Below w.heap.size w W->AbidesFrom W.heap.size J->AbidesFrom W.heap.size Jx->zic b J->zic b Jx ->
  (∀ pre x W1,J pre W1->Sp (pre++[x])->YieldAt F (n - 1) P l #[enc x] W1 fun e W'=>(e=.returned (.bool true)∧J (pre++[x]) W'∧Kp W1 W')∨(e=.returned (.bool false)∧Jx (pre++[x]) W')) ->
  J [] W ->
  CallsIn F n P g (#[.func (.yield l) #[] #[]]++lb) W fun e W'=>(∃ v,e=.returned v)∧((∃ xs,S xs∧J xs W')∨(∃ pre,Sp pre∧Jx pre W'))
def roundP {α:Type} (Kp:World->World->Prop) (I Ix:List α->World->Prop) (xs:List α) (W:World):Exit->Act->World->Prop
 |.normal,_,W'=>KeepsOthers W W'∧Kp W W'∧I xs W'
 |.ret,_,W'=>KeepsOthers W W'∧Ix xs W'
 |_,_,_=>False
section
variable {F:Fence} {n:Nat} {P:Program}
theorem zeM {α:Type} {g:Operand} {p:Tmp} {assign body:Code} {Q:Exit->Act->World->Prop} {a:Act} 
  (hro:F.round=none) (h1:1<=n) {gf:Nat} {lb:Array Value} (hg:a.eval g=.func (.func gf) #[] lb) (hFg:F.fn gf) (eg:∀ args w,(callFunc gf args).run P w=.ok (.enter gf args) w)
  {enc:α->Value} {Kp:World->World->Prop} {S Sp:List α->Prop} {b:Nat} (hseq:SeqCell F (n - 1) P gf lb enc Kp S Sp b w) (hb:b<w.heap.size)
  (hKt:∀ {A B C:World},Kp A B->Kp B C->Kp A C) (hKb:∀ (W:World) (o o':Loop),zhI w.heap.size o W->Kp W (W.putObj (w.heap.size+1) (.loop o')))
  (I Ix:List α->World->Prop) (hI:OwnFrom w.heap.size I) (hIx:OwnFrom w.heap.size Ix) (hIs:zic b I) (hIxs:zic b Ix) (h0:I [] w) (a₁:α->Act)
  (hassign:∀ (l:Nat) (x:α) (W:World) (K:Act->World->Prop),K (a₁ x) W ->
   assign.wpIn (F.inRound l) (n - 1 - 1) P (Exit.then K (fun _ _ _=>False)) { tmps:=(#[p].zip #[enc x]).foldl (fun t (p,v)=>t.setIfInBounds p v) a.tmps,defers:=[] } W)
  (hbody:∀ (l:Nat) (pre:List α) (x:α) (W:World),Sp (pre++[x])->I pre W->body.wpIn (F.inRound l) (n - 1 - 1) P (roundP Kp I Ix (pre++[x]) W) (a₁ x) W)
  (hdone:∀ (xs:List α) (W:World),S xs->I xs W->W.heap[w.heap.size]?=some (.deferred (some []))->Q .normal { a with defers:={ target:=.collected w.heap.size,args:=#[] } :: a.defers } W)
  (hstop:∀ (pre:List α) (W:World),Sp pre->Ix pre W->W.heap[w.heap.size]?=some (.deferred (some []))->Code.ret.wpIn F n P Q { a with defers:={ target:=.collected w.heap.size,args:=#[] } :: a.defers } W) :
  (Code.rangeFunc g #[p] assign body).wpIn F n P Q a w:=by
 refine wpIn_rangeFunc fun fn hfn=>?_;rw [hro];generalize hB:w.heap.size=B at *;obtain⟨d,c⟩:∃ d:LoopState->Option Code->Loop,d=fun st pe=>{ state:=st,pending:=pe,fn,tmps:=a.tmps,params:=#[p],assign,body,defers:=B }:=⟨_,rfl⟩;have f:∀ {J:List α->World->Prop} {s:List α} {W:World} {o:Loop} (o':Loop),OwnFrom B J->J s W->zhI B o W->J s (W.putObj (B+1) (.loop o')):=fun o' hJ hs i=>hJ.putObj _ hs oM i.1 rfl;obtain⟨j,k⟩:∃ j,(w.alloc (.deferred (some []))).alloc (.loop (d .ready none))=j:=⟨_,rfl⟩;have Z:j.heap.size=B+2:=by rw [← k];simp [hB]
 have R:zhI B (d .ready none) j:=by
  have e:=World.alloc_heap_new (w.alloc (.deferred (some []))) (.loop (d .ready none));rw [World.size_alloc,hB] at e;rw [← k];exact⟨e,(Below.heap_alloc _ _ _ (by simp [hB])).trans (by rw [← hB];exact World.alloc_heap_new w _)⟩
 have O:I [] j:=by rw [← k];exact hI.alloc _ (hI.alloc _ h0)
 have M:Below w.heap.size w j:=by rw [← k];exact ((Below.refl _ w).alloc (cY _) _).alloc sM _
 have L:∀ {A:World} {row:Option Nat},(∀ r,row=some r->j.heap.size<=r∧∃ x:Obj,A.heap[r]?=some x∧x.isWalk=true)->∀ r,row=some r->B<=r∧∃ x:Obj,A.heap[r]?=some x∧x.isCells=false:=fun hr r e=>by
  obtain⟨h,x,hx,V⟩:=hr r e;exact⟨oM,x,hx,Obj.not_cells_of_walk V⟩
 have m:∀ {J:List α->World->Prop} {o:Loop},OwnFrom B J->AbidesFrom j.heap.size (fun s W=>J s W∧zhI B o W):=fun hJ s A C row hs hg hr=>⟨hJ s A C row hs.1 hg (L hr),hs.2.walk hg (fun r e=>(hr r e).2)⟩;have z:∀ {J:List α->World->Prop} {o:Loop},zic b J->zic b (fun s W=>J s W∧zhI B o W):=fun hJ s A v hs=>⟨hJ s A v hs.1,hs.2.set hb v⟩;refine⟨B+1,[{ target:=.collected B,args:=#[] }],j,{ target:=.fn (.func gf) lb,args:=#[.func (.yield (B+1)) #[] #[]] },j,gf,#[.func (.yield (B+1)) #[] #[]]++lb,j,
  by rw [← k,c,← hB];exact run_enterLoop_outer _ _ _ _ _,by simp only [resolve,hg];simp [go_sem],fun f' hf'=>by simp [Target.leads] at hf';subst hf';exact hFg,by simp [invoke,go_sem,eg],fun _=>h1,?_⟩
 refine (hseq (B+1) (fun s W=>I s W∧zhI B (d .ready none) W) (fun s W=>Ix s W∧zhI B (d .done (some .ret)) W) j M (m hI) (m hIx) (z hIs) (z hIxs) ?_ ⟨O,R⟩).mono ?_
 ·rintro pre x W ⟨G,i⟩ E;have T:=run_yield (P:=P) (args:=#[enc x]) i.1 (by rw [c];rfl);rw [c] at T;have H:=i.put { d .ready none with state:=.busy }
  refine⟨fn,_,assign,body,T,roundIn_of_wpIn hfn (hassign _ x W _ ⟨_,run_beginRound i.1 (by rw [c]),wpIn_mono (hbody _ pre x _ E (f _ hI G i)) ?_⟩)⟩;have y:∀ (jump:Option Code) (D:World),zhI B { d .ready none with state:=.busy } D->(Instr.endRound (B+1) jump).run P D=.ok (.bool jump.isNone) (D.putObj (B+1) (.loop (d (if jump.isNone then .ready else .done) jump))):=fun jump D q=>by
   have:=run_endRound (P:=P) jump q.1;rw [c] at this ⊢;exact this
  rintro e Y D u;cases e with
  |normal =>
   have q:=H.kept u.1;exact⟨_,_,y none D q,.inl ⟨rfl,⟨f _ hI u.2.2 q,q.put _⟩,hKt (hKt (hKb _ _ _ i) u.2.1) (hKb _ _ _ q)⟩⟩
  |ret =>
   have q:=H.kept u.1;exact⟨_,_,y (some .ret) D q,.inr ⟨rfl,f _ hIx u.2 q,q.put _⟩⟩
  |exit id=>exact u.elim
  |goto t=>exact u.elim
  |panic ch=>exact u.elim
  |outgrown=>exact u.elim
 ·rintro e X ⟨⟨v,rfl⟩,(⟨xs,U,G,i⟩|⟨pre,E,G,i⟩)⟩
  ·exact⟨none,_,by have:=run_endLoop (P:=P) i.1 (by rw [c];simp);rw [c] at this ⊢;exact this,hdone xs _ U (f _ hI G i) (i.put (d .exhausted none)).2⟩
  ·exact⟨some .ret,_,by have:=run_endLoop (P:=P) i.1 (by rw [c];simp);rw [c] at this ⊢;exact this,hstop pre _ E (f _ hIx G i) (i.put (d .exhausted (some .ret))).2⟩
end
section
open Go.Shelf
attribute [local go_sem] Oper.semAt_some
def PcS (s:ByteArray) (xs:List ByteArray):Prop:=xs.map (fun x=>x.data.toList)=zcx 44 s.data.toList
def PcP (s:ByteArray) (xs:List ByteArray):Prop:=xs.map (fun x=>x.data.toList) <+: zcx 44 s.data.toList
theorem pc_hit {z r:ByteArray}  {u v:List UInt8}(h:pre.map (fun x=>x.data.toList)++zcx 44 y.data.toList=zcx 44 s.data.toList)(hy:y.data.toList=u++44 :: v)(hu:(44:UInt8)∉u)(hz:z.data.toList=u)(hr:r.data.toList=v) :
  PcP s (pre++[z])∧(pre++[z]).map (fun x=>x.data.toList)++zcx 44 r.data.toList=zcx 44 s.data.toList:=by
 rw [hy,zgh hu] at h;have e:(pre++[z]).map (fun x=>x.data.toList)++zcx 44 r.data.toList=zcx 44 s.data.toList:=by
  rw [← h,hr];simp [hz]
 exact⟨⟨_,e⟩,e⟩
theorem pc_last (h:pre.map (fun x=>x.data.toList)++zcx 44 y.data.toList=zcx 44 s.data.toList)(hy:(44:UInt8)∉y.data.toList):PcS s (pre++[y]):=by
 rw [zeR hy] at h;unfold PcS;rw [← h];simp
theorem PcS.p {xs:List ByteArray}(h:PcS s xs):PcP s xs:=by
 unfold PcS at h;unfold PcP;rw [h];exact List.prefix_refl _
theorem Below.blk {t:TypeId} (h:Below n w w')(hk:k<n)(hb:Blk w k t cs):Blk w' k t cs:=(h.block k hk).trans hb
def KpS (b:Nat) (W W':World):Prop:=∀ k,b<=k->k<b+3->W'.heap[k]?=W.heap[k]?
theorem KpS.blk {t:TypeId} (h:KpS b w w')(h1:b<=k)(h2:k<b+3)(hb:Blk w k t cs):Blk w' k t cs:=(h k h1 h2).trans hb
theorem KpS.trans {u v:World}(h:KpS b u v) (g:KpS b v w):KpS b u w:=fun k h1 h2=>(g k h1 h2).trans (h k h1 h2)
theorem KpS.put (hk:b+3<=k):KpS b W (W.putObj k o):=fun j h1 h2=>World.putObj_heap_other oM
def leftS (b:Nat) (W:World):Nat:=match W.cell? b with
 |some (.string y)=>y.size
 |_=>0
theorem seq_in {l:Nat} (hn:1<=n)(hs:s.size<=2000000) (J Jx:List ByteArray->World->Prop)(hJs:zic b J)
  (hY:∀ pre x W1,J pre W1->PcP s (pre++[x])->YieldAt Fence.wide (n - 1) Tryz.prog l #[.string x] W1 fun e W'=>(e=.returned (.bool true)∧J (pre++[x]) W'∧KpS b W1 W')∨(e=.returned (.bool false)∧Jx (pre++[x]) W'))
  (W:World) (b0:Blk W b 9 #[s]) (b1:Blk W (b+1) 9 #[.string ⟨#[44]⟩]) (b2:Blk W (b+2) 3 #[(0:Int)]) (h0:J [] W) :
  CallsIn Fence.wide n Tryz.prog 185 #[.func (.yield l) #[] #[],.pointer (some ⟨b+1,0,none⟩),.pointer (some b),.pointer (some ⟨b+2,0,none⟩)] W fun e W'=>(∃ v,e=.returned v)∧((∃ xs,PcS s xs∧J xs W')∨(∃ pre,PcP s pre∧Jx pre W')):=by
 have Hs:=za hs;clear hs;refine callsIn_of_wp Tryz.func185 rfl trivial ?_ rfl;simp only [Tryz.ntmps185,List.size_toArray,eI,List.length_nil,Nat.reduceAdd,Nat.reduceSub,Array.replicate_succ,Array.replicate_zero,List.push_toArray,List.append_toArray,eB,fH];have t:=b1.cell
 gi_wp2
 clear t
 gi_loopw [7,8] (fun _ _ wr=>∃ (pre:List ByteArray) (y:ByteArray),Hid (y.size<=2000000)∧Hid (Blk wr b 9 #[y])∧Hid (Blk wr (b+1) 9 #[.string ⟨#[44]⟩])∧Hid (Blk wr (b+2) 3 #[(0:Int)])∧Hid (pre.map (fun x=>x.data.toList)++zcx 44 y.data.toList=zcx 44 s.data.toList)∧J pre wr) (fun _ _ wr=>leftS b wr)
 case atStart=>exact⟨[],s,Hs,za b0,za b1,za b2,za rfl,h0⟩
 case round =>
  obtain⟨pre,y,hy,D,S,T,hcut,X⟩:=hrel;have B:=D.out.cell;have U:=D.out.frozen;have t:=S.out.cell;have c2:=T.out.cell;have I:=za (show leftS b wr=y.size by unfold leftS;rw [B];rfl);have al:y.size<=2000000:=hy.out;rcases zgF 44 y.data.toList with ⟨f,h2⟩|⟨u,v,f,h2,V⟩
  ·have a:=pc_last hcut.out f;have j:=za (zhS y wr);rw [h2] at j;obtain⟨fn,r,d,k,M,F⟩:=hY pre y wr X a.p;have O:=za a;clear f h2 a
   gi_wp2_with (refine⟨trivial,?_⟩;gi_at_call 155;refine (callsIn_wide.2 j.out).mono ?_;rintro e w' ⟨rfl,rfl⟩)
   refine F.mono ?_;rintro e Q (⟨rfl,h,g⟩|⟨rfl,c⟩)
   ·gi_wp2
    go_end0
    exact⟨⟨_,rfl⟩,.inl ⟨_,O.out,h⟩⟩
   ·gi_wp2
    go_end0
    exact⟨⟨_,rfl⟩,.inr ⟨_,O.out.p,c⟩⟩
  ·have j:=za (zhS y wr);rw [V] at j;have aj:u.length<y.size:=by
    have:=congrArg iK f;have e:y.data.toList.length=y.size:=rfl;simp at this;omega
   have Z:(y.extract 0 u.length).data.toList=u:=by rw [zdd,f];simp
   have Y:(y.extract (u.length+1) y.size).data.toList=v:=by
    have e:y.data.toList.length=y.size:=rfl;rw [zdd,f,dG]
    ·rw [show u++44 :: v=(u++[44])++v by simp,List.drop_left' sM]
    ·rw [List.length_drop,← f,e];omega
   obtain⟨L,o⟩:=pc_hit hcut.out f h2 Z Y;have q:=za (show (y.extract (u.length+1) y.size).size<y.size∧(y.extract (u.length+1) y.size).size<=2000000 by rw [ByteArray.size_extract];omega);have Hp:=za L;have z:=za o;generalize u.length=i at *;obtain⟨fn,r,d,k,M,F⟩:=hY pre (y.extract 0 i) wr X L;have ah:(i:Int)<=(y.size:Int):=oM;have ai:(i:Int)+1<=(y.size:Int):=oM;have ag:¬ ((i:Int)<0):=oM;clear f h2 V Z Y L o hcut
   gi_wp2_with (refine⟨trivial,?_⟩;gi_at_call 155;refine (callsIn_wide.2 j.out).mono ?_;rintro e w' ⟨rfl,rfl⟩)
   refine F.mono ?_;rintro e Q (⟨rfl,h,g⟩|⟨rfl,c⟩)
   ·have C:=g.blk oM oM D.out;have R:=g.blk oM oM S.out;have d2:=g.blk oM oM T.out;clear B U t c2;have B:=C.cell;have U:=C.frozen;have t:=R.cell;have m:=za (show Blk (Q.setCell b (.string (y.extract (i+1) y.size))) b 9 #[.string (y.extract (i+1) y.size)] by simpa using C.ab 0 (.string (y.extract (i+1) y.size)));have G:=za (R.far (p:=⟨b,0,none⟩) sM (.string (y.extract (i+1) y.size)));have H:=za (d2.far (p:=⟨b,0,none⟩) sM (.string (y.extract (i+1) y.size)));have E:=hJs _ _ (.string (y.extract (i+1) y.size)) h
    gi_wp2
    go_roundw
    case rel=>exact⟨_,_,za q.out.2,m,G,H,z,E⟩
    case measure =>
     rw [I.out];unfold leftS;rw [m.out.cell];exact q.out.1
   ·gi_wp2
    refine bodyPost_ret (results_none rfl _ _ _) rfl ?_;exact⟨⟨_,rfl⟩,.inr ⟨_,Hp.out,c⟩⟩
theorem seq_cell (hn:1<=n)(hs:s.size<=2000000) (b0:Blk w b 9 #[s]) (b1:Blk w (b+1) 9 #[.string ⟨#[44]⟩]) (b2:Blk w (b+2) 3 #[(0:Int)]) :
  SeqCell Fence.wide n Tryz.prog 185 #[.pointer (some ⟨b+1,0,none⟩),.pointer (some b),.pointer (some ⟨b+2,0,none⟩)] (fun x:ByteArray=>Value.string x) (KpS b) (PcS s) (PcP s) b w:=fun _ J Jx W hW _ _ hJs _ hY h0 =>
 seq_in hn hs J Jx hJs hY W (Below.blk hW b0.lt b0) (Below.blk hW b1.lt b1) (Below.blk hW b2.lt b2) h0
theorem lib_SplitSeq (s:ByteArray) (w:World):Calls Tryz.prog 115 #[s,.string ⟨#[44]⟩] w fun e w'=>e=.returned (.func (.func 185) #[] #[.pointer (some ⟨w.heap.size+1,0,none⟩),.pointer (some w.heap.size),.pointer (some ⟨w.heap.size+2,0,none⟩)])∧w'=((w.alloc (.cells #[s] 9)).alloc (.cells #[.string ⟨#[44]⟩] 9)).alloc (.cells #[(0:Int)] 3):=by
 have a:∀ W,Calls Tryz.prog 156 #[s,.string ⟨#[44]⟩,(0:Int)] W fun e w'=>e=.returned (.func (.func 185) #[] #[.pointer (some ⟨W.heap.size+1,0,none⟩),.pointer (some ⟨W.heap.size,0,none⟩),.pointer (some ⟨W.heap.size+2,0,none⟩)])∧w'=((W.alloc (.cells #[s] 9)).alloc (.cells #[.string ⟨#[44]⟩] 9)).alloc (.cells #[(0:Int)] 3):=fun W=>by
  go_enter Tryz.func156,Tryz.ntmps156
  go_wp2;go_ret;exact⟨rfl,rfl⟩
 go_enter Tryz.func115,Tryz.ntmps115
 go_wp2_with (go_at_call 156;refine (a _).mono ?_;rintro e w' ⟨rfl,rfl⟩)
 go_ret;exact⟨rfl,rfl⟩
attribute [local go_sem] Oper.semAt_some
def AtR (pre:List ByteArray) (ls:List Int):Prop:=ls.length=pre.length∧∀ (k:Nat) (y:ByteArray),pre[k]?=some y->∃ v,ls[k]?=some v∧Lib.atoiAll y.data.toList=.ok v
theorem AtR.nil:AtR [] []:=⟨rfl,fun k y h=>by simp at h⟩
theorem AtR.snoc {v:Int}(h:AtR pre ls)(hx:Lib.atoiAll x.data.toList=.ok v):AtR (pre++[x]) (ls++[v]):=by
 refine⟨by simp [h.1],fun k y hy=>?_⟩;rcases Nat.lt_trichotomy k pre.length with a|a|a
 ·rw [dK a] at hy;rw [dK (by rw [h.1];exact a)];exact h.2 k y hy
 ·subst a;rw [dP (cY _),eW] at hy;obtain rfl:=Option.some.inj hy;exact⟨v,by rw [dP (by rw [h.1];exact cY _),h.1,eW];rfl,hx⟩
 ·rw [dZ (by simp;omega)] at hy;cases hy
theorem at_done {xs:List ByteArray} (h:AtR xs ls)(hS:PcS s xs)(hne:s.data.toList≠[]):JoinOf s true ls:=by
 intro r hr hj;refine⟨rfl,?_⟩;refine List.ext_getElem? fun k=>?_;have f:=join_size hS hne hr hj;rcases Nat.lt_or_ge k xs.length with a|a
 ·obtain⟨x,hx,c,d⟩:=join_piece hS hne hr hj (dC a);obtain⟨v,g,b⟩:=h.2 k _ (dC a);rw [d,zgv c] at b;rw [g,dQ,hx];injection b with b
  rw [← b];rfl
 ·rw [dZ (by rw [h.1];exact a),dZ (by rw [dO,f];exact a)]
theorem at_stop (hx:x∈pre)(hn:∀ v,Lib.atoiAll x.data.toList≠.ok v)(hp:PcP s pre)(hne:s.data.toList≠[]):JoinOf s false []:=by
 intro r hr hj;exfalso;obtain⟨y,a,rfl⟩:∃ y a,r=y :: a:=by
  cases r with
  |nil=>exact absurd hj.symm hne
  |cons y a=>exact⟨y,a,rfl⟩
 have c:x.data.toList∈zcx 44 s.data.toList:=hp.subset (List.mem_map_of_mem hx);rw [← hj,join_cut (hr y sM) (fun z b=>hr z (by simp [b]))] at c;obtain⟨z,b,d⟩:=List.mem_map.1 c;exact hn _ (by rw [← d];exact zgv (hr z b))
theorem pc_size (h:PcP s pre):∀ x∈pre,x.size<=s.size:=by
 intro x hx;have a:∀ (u:List UInt8),∀ x∈zcx 44 u,x.length<=u.length:=by
  exact yQ15a1
 have:=a s.data.toList x.data.toList (h.subset (List.mem_map_of_mem hx));simpa using this
theorem cut_length (u:List UInt8):(zcx 44 u).length<=u.length+1:=by
 induction u with
 |nil=>simp [zcx]
 |cons b t ih =>
  rw [zcx];split
  ·simp;omega
  ·split
   ·simp
   ·rename_i h2 r2 hcut;rw [hcut] at ih;simp at ih ⊢;omega
theorem pc_length (h:PcP s pre):pre.length<=s.size+1:=by
 have a:=h.length_le;rw [dO] at a;have h2:=cut_length s.data.toList;have:s.data.toList.length=s.size:=rfl;omega
theorem own_kept {row:Option Nat}      (h:W.ownsRow base e size v n xs)(hg:W.grownBy W' row)(hr:∀ r,row=some r->∃ o:Obj,W.heap[r]?=some o∧o.isCells=false):W'.ownsRow base e size v n xs:=
 zf h (Frm.ae hg) (fun b hb e=>by
  obtain⟨o,ho,hc⟩:=hr b e;rcases h.2 with ⟨rfl,_⟩|⟨g,cap,cur,rfl,hb2,hh,_⟩
  ·simp [Value.ownBlock] at hb
  ·have:g=b:=by simpa [Value.ownBlock] using hb
   subst this;rw [hh] at ho;obtain rfl:=Option.some.inj ho;simp [Obj.isCells] at hc)
theorem zeP {row:Option Nat}  {t:TypeId} (h:Blk W k t cs)(hg:W.grownBy W' row)(hr:∀ r,row=some r->∃ o:Obj,W.heap[r]?=some o∧o.isCells=false):Blk W' k t cs:=
 (hg.block k h.lt (fun e=>by
  obtain⟨o,ho,hc⟩:=hr k e.symm
  have h':W.heap[k]?=some (.cells cs t (0,0)):=h
  rw [h'] at ho
  obtain rfl:=Option.some.inj ho
  simp [Obj.isCells] at hc)).trans h
structure RdI (w:World) (Z B:Nat) (pre:List ByteArray) (W:World) (v:Value) (ls:List Int):Prop where
 wb:B<=W.heap.size
 r1:Blk W Z 74 #[()]
 r2:Blk W (Z+1) 4 #[.bool false]
 bo:Blk W (Z+2) 74 #[v]
 own:W.ownsRow B 3 1 v ls.length (ints ls)
 num:AtR pre ls
 ext:Ext w W
def RdJ (w:World) (Z B:Nat) (pre:List ByteArray) (W:World):Prop:=∃ v ls,Hid (RdI w Z B pre W v ls)
def RdX (w:World) (Z:Nat) (pre:List ByteArray) (W:World):Prop:=Hid (Blk W Z 74 #[()])∧Hid (Blk W (Z+1) 4 #[.bool false])∧Hid (∃ x∈pre,∀ v,Lib.atoiAll x.data.toList≠.ok v)∧Ext w W
theorem RdJ.from {B:Nat}(hZ:w.heap.size<=B):OwnFrom B (RdJ w Z B):=fun s W W' row hs hg hr=>by
 obtain⟨v,ls,h⟩:=hs
 have hr':=fun r e=>(hr r e).2
 exact⟨v,ls,za ⟨dJ h.out.wb hg.size,zeP h.out.r1 hg hr',zeP h.out.r2 hg hr',zeP h.out.bo hg hr',own_kept h.out.own hg hr',h.out.num,h.out.ext.grown hg (fun k hk=>by have:=(hr k hk).1;omega)⟩⟩
theorem RdX.from {B:Nat}(hZ:w.heap.size<=B):OwnFrom B (RdX w Z):=fun s W W' row hs hg hr=>by
 obtain⟨h1,h2,h3,h4⟩:=hs
 have hr':=fun r e=>(hr r e).2
 exact⟨za (zeP h1.out hg hr'),za (zeP h2.out hg hr'),h3,h4.grown hg (fun k hk=>by have:=(hr k hk).1;omega)⟩
theorem RdJ.set {B:Nat}(hw:w.heap.size<=Z)(hB:Z+3<B):zic (Z+3) (RdJ w Z B):=fun s W u hs=>by
 obtain⟨v,ls,h⟩:=hs
 refine⟨v,ls,za ⟨by simpa [World.setCell] using h.out.wb,h.out.r1.far (p:=⟨Z+3,0,none⟩) sM u,h.out.r2.far (p:=⟨Z+3,0,none⟩) sM u,h.out.bo.far (p:=⟨Z+3,0,none⟩) sM u,zf h.out.own (dE W (Z+3) 0 u) (fun b hb e=>?_),h.out.num,h.out.ext.setCell (p:=⟨Z+3,0,none⟩) (by show _<=Z+3;omega) u⟩⟩
 have:=(h.out.own.lt b hb).1
 have e':b=Z+3:=e
 omega
theorem RdX.set (hw:w.heap.size<=Z):zic (Z+3) (RdX w Z):=fun s W u hs=>by
 obtain⟨h1,h2,h3,h4⟩:=hs
 exact⟨za (h1.out.far (p:=⟨Z+3,0,none⟩) sM u),za (h2.out.far (p:=⟨Z+3,0,none⟩) sM u),h3,h4.setCell (p:=⟨Z+3,0,none⟩) (by show _<=Z+3;omega) u⟩
theorem ext_blkR {ds es fs:Array Value} {t u v x:TypeId}(h:Ext ((((w.alloc (.cells cs t)).alloc (.cells ds u)).alloc (.cells es v)).alloc (.cells fs x)) w'):Blk w' w.heap.size t cs∧Blk w' (w.heap.size+1) u ds∧Blk w' (w.heap.size+1+1) v es∧Blk w' (w.heap.size+1+1+1) x fs:=by
 have h2:=zN (((cW _).alloc _).trans h);refine⟨h2.1,h2.2.1,h2.2.2,?_⟩;have:=zaV h;simpa using this
theorem own_isCells (h:W.ownsRow base e size v n xs):∀ (j:Nat) (o:Obj),v.ownBlock=some j->W.heap[j]?=some o->o.isCells=true:=fun j o hj ho=>by
 rcases h.2 with ⟨rfl,_⟩|⟨g,cap,cur,rfl,hb2,hh,_⟩
 ·simp [Value.ownBlock] at hj
 ·have:g=j:=by simpa [Value.ownBlock] using hj
  subst this;rw [hh] at ho;obtain rfl:=Option.some.inj ho;rfl
theorem ext_put (h:Ext w W)(hk:w.heap.size<=k):Ext w (W.putObj k o):=⟨h.os,h.tape,h.output,by simpa using h.size,fun j hj hn=>(World.putObj_heap_other oM).trans (h.block j hj hn)⟩
theorem zih {j:Nat}  {t:TypeId} (h:Blk W j t cs)(hk:j≠k):Blk (W.putObj k o) j t cs:=(World.putObj_heap_other hk).trans h
theorem kps_ext (h:Ext W W')(hb:b+3<=W.heap.size):KpS b W W':=fun k _ h2=>h.block k oM id
theorem kps_frm (h:Frm S W W')(hb:b+3<=W.heap.size)(hS:∀ k,S k->k<b∨b+3<=k):KpS b W W':=fun k h1 h2=>h.block k oM (fun e=>by have:=hS k e;omega)
theorem zft (h:Ext W W'):KeepsOthers W W':=⟨h.size,fun k _ hk _=>(h.block k (Array.getElem?_eq_some_iff.1 hk).1 id).trans hk⟩
theorem zfu (hs:s.size<=2000000)(hE:Sent w) :
  Calls Tryz.prog 66 #[s] w (RetIntsX s w):=by
 have HE:=za (fun W (hW:Ext w W)=>hE.ext hW);clear hE;cases he:s.toList.isEmpty
 ·have J:=za (zgS he);have Z:=za hs;have T:((w.alloc (.cells #[()] 74)).alloc (.cells #[.bool false] 4)).heap.size=w.heap.size+2:=sM;refine (callsIn_wide (n:=20)).1 ?_;refine callsIn_of_wp_marks Tryz.func66 rfl trivial ?_ rfl;simp only [Tryz.ntmps66,List.size_toArray,eI,List.length_nil,Nat.reduceAdd,Nat.reduceSub,Array.replicate_succ,Array.replicate_zero,List.push_toArray,List.append_toArray,eB,fH]
  gi_wp2_with (refine⟨trivial,?_⟩;gi_at_call 115;refine (callsIn_wide.2 (lib_SplitSeq _ _)).mono ?_;rintro e w' ⟨rfl,rfl⟩)
  obtain⟨f,U0⟩:∃ x,Hid ((((((w.alloc (.cells #[()] 74)).alloc (.cells #[.bool false] 4)).alloc (.cells #[()] 74)).alloc (.cells #[s] 9)).alloc (.cells #[.string ⟨#[44]⟩] 9)).alloc (.cells #[(0:Int)] 3)=x):=⟨_,za rfl⟩;obtain⟨X,Y⟩:=zT (w:=w) (((((((cW ((w.alloc (.cells #[()] 74)).alloc (.cells #[.bool false] 4))).alloc _).alloc _).alloc _).alloc _)).trans (fQ U0.out));obtain⟨C,D,c3,c4⟩:=ext_blkR (fQ U0.out);have ar:Ext w f:=(((((((cW w).alloc _).alloc _).alloc _).alloc _).alloc _).alloc _).trans (fQ U0.out);have H:f.heap.size=w.heap.size+6:=by rw [← U0.out];simp
  rw [T] at C D c3 c4;clear T he hs;rw [U0.out] at *;have Hz:=za H;clear H;have b3:Blk f (w.heap.size+3) 9 #[.string s]:=D;have b4:Blk f (w.heap.size+3+1) 9 #[.string ⟨#[44]⟩]:=c3;have b5:Blk f (w.heap.size+3+2) 3 #[.int .i64 0]:=c4;have h0:RdJ w w.heap.size f.heap.size [] f:=⟨_,[],za ⟨cY _,X,Y,C,World.ownsRow_nil _ _ _ _,AtR.nil,ar⟩⟩;have O:w.heap.size+3<f.heap.size:=oH Hz.out;have aT:w.heap.size+3+3=f.heap.size:=Hz.out.symm;clear X Y C D c3 c4;refine zeM rfl oM (gf:=185) (lb:=#[.pointer (some ⟨w.heap.size+3+1,0,none⟩),.pointer (some ⟨w.heap.size+3,0,none⟩),.pointer (some ⟨w.heap.size+3+2,0,none⟩)]) rfl trivial (enters_of Tryz.func185 kM rfl)
   (seq_cell oM Z.out b3 b4 b5) O (fun h g=>KpS.trans h g) (fun W o o' hl=>KpS.put oM) (RdJ w w.heap.size f.heap.size) (RdX w w.heap.size)
   (RdJ.from oM) (RdX.from oM) (RdJ.set (cY _) O) (RdX.set (cY _)) h0
   (fun x=>{ tmps:=#[.string s,undef,.pointer (some w.heap.size),.pointer (some ⟨w.heap.size+1,0,none⟩),.pointer (some ⟨w.heap.size+2,0,none⟩),.string x,undef,undef,.string s,.bool false,.string s,.func (.func 185) #[] #[.pointer (some ⟨w.heap.size+3+1,0,none⟩),.pointer (some ⟨w.heap.size+3,0,none⟩),.pointer (some ⟨w.heap.size+3+2,0,none⟩)],.string x,undef,undef,undef,undef,undef,undef,undef,undef,undef,undef,undef,undef],defers:=[] }) ?assign ?body ?done ?stop
  case assign =>
   intro l x W K hK
   gi_wp2
   exact hK
  case body =>
   rintro l aA x W G ⟨v,d,c⟩;have au:x.size<=2000000:=dJ (pc_size G x sM) Z.out;have Q:=pc_length G;have aW:=Z.out;simp only [dL,eA] at Q;have R:=za c.out.num;have am:=za c.out.num.1;have ai:=HE.out _ c.out.ext
   gi_wp2
   refine⟨trivial,?_⟩;refine (CallsIn.inRound l (callsIn_wide.2 (lib_Atoi au ai))).mono ?_;rintro e W1 ⟨⟨u,rfl,hu⟩|⟨u,t,p,rfl,hu⟩,a⟩
   ·have I:=c.out.r1.ext a;have r2:=c.out.r2.ext a;have bo:=c.out.bo.ext a;have i:=zg c.out.own a;have ao:=za (R.out.snoc hu.out);have aq:=za (c.out.ext.trans a);have aX:=a.size;have aR:=za c.out.ext.size;have M:=za c.out.wb;have co:=bo.cell;have fo:=bo.frozen;have aE:d.length<=2000001:=oH am.out;obtain⟨m,q,rfl⟩:=zi i;obtain⟨i0,hi,H,ax,ay⟩:=info_parts zae;have aj:f.heap.size<=W1.heap.size:=by
     have h2:=M.out;omega
    have S:=za (zft a);have al:=za (kps_ext (b:=w.heap.size+3) a (oH M.out));clear c a
    gi_wp2_with (gi_at_builtin;refine wpListIn_append_own _ rfl _ _ 74 rfl f.heap.size 3 i0 (.int .i64 0) 1 8 Tryz.underlying74 hi H ax ay rfl dM (.slice m d.length q) d.length (ints d) rfl (zg i ((cW _).alloc _)) ⟨W1.heap.size,0,none⟩ 1 1 [.int .i64 u] rfl rfl (cell_one_new _ _ _) (by simp [Value.oneCell']) lM oM (by rw [World.size_alloc];omega) ?_;intro v' w2 hown' hgrow hv';obtain⟨g',E,rfl⟩:=ownsRow_succ hown';have j:=(cW W1).alloc (.cells #[u] 3);have az:=zg i j;have z:=Frm.ae hgrow;have F:∀ k,k<f.heap.size->¬ (Value.slice m d.length q).ownBlock=some k:=(fun k hk e=>by have:=(i.lt k e).1;omega);have ro:=(bo.ext j).frm z (fun e=>F _ oM e);have co:=ro.cell;have fo:=ro.frozen)
    have U:=(I.ext j).frm z (fun e=>F _ oM e);have V:=(r2.ext j).frm z (fun e=>F _ oM e);have B:=dE w2 (w.heap.size+2) 0 (.slice (some g') (d.length+1) E);have aF:=z.size;have aG:=j.size;refine⟨((S.out.trans (zft j)).trans (KeepsOthers.of_grownBy hgrow (own_isCells az))).trans (KeepsOthers.setCell _ _ _),
     ((al.out.trans (kps_ext j oM)).trans (kps_frm z oM (fun k hk=>.inr (by have:=(i.lt k hk).1;omega)))).trans (kps_frm B oM (fun k hk=>.inl (by have aV:k=w.heap.size+2:=hk;omega))),.slice (some g') (d.length+1) E,d++[u],za ⟨?_,U.frm B oM,V.frm B oM,?_,?_,ao.out,?_⟩⟩
    ·exact dJ oM B.size
    ·simpa using ro.ab 0 (.slice (some g') (d.length+1) E)
    ·have h9:=zf hown' B (fun b hb e=>by have:=(hown'.lt b hb).1;have e':b=w.heap.size+2:=e;omega);simpa [ints] using h9
    ·exact ((aq.out.trans j).frm z (fun k hk e=>F k oM e)).frm B (fun k hk e=>by have e':k=w.heap.size+2:=e;omega)
   ·have I:=c.out.r1.ext a;have r2:=c.out.r2.ext a;have hx:=c.out.ext.trans a;have aY:=c.out.ext.size;have C:=I.cell;have f1:=I.frozen;have D:=r2.cell;have f2:=r2.frozen
    gi_wp2
    exact⟨((zft a).trans (KeepsOthers.setCell _ _ _)).trans (KeepsOthers.setCell _ _ _),
     za (Blk.far (by simpa using I.ab 0 (.slice none 0 0)) (p:=⟨w.heap.size+1,0,none⟩) sM _),za (by simpa using (r2.far (p:=⟨w.heap.size,0,none⟩) sM (.slice none 0 0)).ab 0 (.bool false)),
     za ⟨x,sM,hu.out⟩,(hx.setCell (p:=⟨w.heap.size,0,none⟩) (cY _) _).setCell (p:=⟨w.heap.size+1,0,none⟩) (Nat.le_succ _) _⟩
  case done =>
   rintro xs W hS ⟨v,d,c⟩ hK;obtain⟨m,q,rfl⟩:=zi c.out.own;have co:=c.out.bo.cell;have C:=c.out.r1.cell;have f1:=c.out.r1.frozen;have D:=c.out.r2.cell;have f2:=c.out.r2.frozen;have hB:w.heap.size+1<f.heap.size:=oM;have an:=za (show d.length<=s.size+1 by rw [c.out.num.1];exact pc_length hS.p);have ak:=za (at_done c.out.num hS J.out);have i:=c.out.own;have I:Blk ((W.setCell w.heap.size (.slice m d.length q)).setCell ⟨w.heap.size+1,0,none⟩ (.bool true)) w.heap.size 74 #[.slice m d.length q]:=Blk.far (by simpa using c.out.r1.ab 0 (.slice m d.length q)) (p:=⟨w.heap.size+1,0,none⟩) sM _;have r2:Blk ((W.setCell w.heap.size (.slice m d.length q)).setCell ⟨w.heap.size+1,0,none⟩ (.bool true)) (w.heap.size+1) 4 #[.bool true]:=by simpa using (c.out.r2.far (p:=⟨w.heap.size,0,none⟩) sM (.slice m d.length q)).ab 0 (.bool true)
   have hx:=(c.out.ext.setCell (p:=⟨w.heap.size,0,none⟩) (cY _) (.slice m d.length q)).setCell (p:=⟨w.heap.size+1,0,none⟩) (Nat.le_succ _) (.bool true);have ow:((W.setCell w.heap.size (.slice m d.length q)).setCell ⟨w.heap.size+1,0,none⟩ (.bool true)).ownsRow f.heap.size 3 1 (.slice m d.length q) d.length (ints d):=
    zf (zf i (dE W w.heap.size 0 _) (fun b hb e=>by have:=(i.lt b hb).1;have e':b=w.heap.size:=e;omega)) (dE _ (w.heap.size+1) 0 _) (fun b hb e=>by have:=(i.lt b hb).1;have e':b=w.heap.size+1:=e;omega)
   have L:=(KeepsOthers.setCell ((W.setCell w.heap.size (.slice m d.length q))) ⟨w.heap.size+1,0,none⟩ (.bool true)).same _ _ ((KeepsOthers.setCell W ⟨w.heap.size,0,none⟩ (.slice m d.length q)).same _ _ hK rfl) rfl
   gi_wp2
   refine⟨sM,.inl ⟨_,_,rfl,run_takeDeferred L,?_⟩⟩;clear C D co f1 f2;generalize (W.setCell w.heap.size (.slice m d.length q)).setCell ⟨w.heap.size+1,0,none⟩ (.bool true)=W' at *;have U:=zih (k:=f.heap.size) (o:=.deferred none) I oM;have V:=zih (k:=f.heap.size) (o:=.deferred none) r2 oM;have C:=U.cell;have D:=V.cell;exact⟨.tuple #[.slice m d.length q,.bool true],by simp [results,Tryz.results66,go_sem,C,D],m,d.length,q,d,true,rfl,rfl,zn (ownsRow_putObj ow _ L rfl) oM,an.out,ak,ext_put hx oM⟩
  case stop =>
   rintro aA W G hX hK;obtain⟨I,r2,⟨y,av,aw⟩,hx⟩:=hX;have hB:w.heap.size+1<f.heap.size:=oM
   gi_wp2
   refine⟨sM,.inl ⟨_,_,rfl,run_takeDeferred hK,?_⟩⟩;have U:=zih (k:=f.heap.size) (o:=.deferred none) I.out oM;have V:=zih (k:=f.heap.size) (o:=.deferred none) r2.out oM;have C:=U.cell;have D:=V.cell;exact⟨.tuple #[(),.bool false],by simp [results,Tryz.results66,go_sem,C,D],none,0,0,[],false,rfl,rfl,World.ownsRow_nil _ _ _ _,oM,za (at_stop av aw G J.out),ext_put hx oM⟩
 ·have He:=za (ziw he);obtain⟨X,Y⟩:=zT (cW ((w.alloc (.cells #[()] 74)).alloc (.cells #[.bool true] 4)));have a:Ext w ((w.alloc (.cells #[()] 74)).alloc (.cells #[.bool true] 4)):=((cW _).alloc _).alloc _
  go_enter Tryz.func66,Tryz.ntmps66
  go_wp2_with fail
  have C:=X.cell;have D:=Y.cell;exact bodyPost_ret (v:=.tuple #[(),.bool true]) (by simp [results,Tryz.results66,go_sem,C,D]) rfl ⟨none,0,0,[],true,rfl,rfl,World.ownsRow_nil _ _ _ _,oM,za (fun r hr h=>⟨rfl,by rw [join_nil hr (h.trans He.out)];rfl⟩),a⟩
end
end Go.Proofs.YtfcjhpodichpjaaGreatDoor
