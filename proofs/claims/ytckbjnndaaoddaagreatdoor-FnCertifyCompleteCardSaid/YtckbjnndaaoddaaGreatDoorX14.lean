/- CertificateO -/
import Derived.Test.YtckbjnndaaoddaaGreatDoorX13
import Derived.Deep.MidRow
import Derived.Deep.WholeRow
set_option maxHeartbeats 2000000
set_option maxRecDepth 100000
namespace Go.Proofs.YtckbjnndaaoddaaGreatDoor
open Go Go.RowKit
open Bool renaming and_eq_true->dI,or_eq_true->fN,false->j3,true->jV
open Ext renaming bl_->dZ,eq_->eX,refl->cY,x2_->gI
open Frm renaming setCell->dG
open List renaming all_eq_true->eK,getD_eq_getElem?_getD->dF,getElem?_eq_getElem->dC,length_map->dS,mem_of_mem_drop->jL,range->eU,replicate->dT,take_add_one->dO,take_of_length_le->dK,getElem?_eq_some_iff->kB,mem_range->kK
open Nat renaming le_refl->dE,mod_eq_of_lt->iI,mul_comm->fJ,testBit_and->fQ,zero_le->dH
open Option renaming getD_some->eM,toList_some->eH,none->fW,some->fV
open Reads renaming af->eF
open Go renaming Calls->j8,Value->j6,World->j2
open Go.Ending renaming returned->j7
open Go.IntKind renaming i64->iX
open Go.Value renaming agg->j4,bool->j9,slice->fF,string->kC
open _root_.Go.Proofs.Tryz renaming prog->j5
variable {A A':Option Addr} {L Z c c' hi k l lo n n':Nat} {T v:List Nat} {a p:Aut} {cd ro:Int} {cs:Array j6} {s t:Sys} {ss:List Sys} {w:j2} {x:ByteArray}
theorem zaJ (W:j2) (Z:Nat) (u0 u1 u2 u3 u4:j6):Frm (fun k=>k=Z) W (((((W.setCell Z u0).setCell ⟨Z,1,fW⟩ u1).setCell ⟨Z,2,fW⟩ u2).setCell ⟨Z,3,fW⟩ u3).setCell ⟨Z,4,fW⟩ u4):=
 ((((dG W Z 0 u0).trans (dG _ Z 1 u1)).trans (dG _ Z 2 u2)).trans (dG _ Z 3 u3)).trans (dG _ Z 4 u4)
theorem zaI {t:TypeId}(h:Blk w Z t cs)(hc:cs.size=5) (u0 u1 u2 u3 u4:j6):Blk (((((w.setCell Z u0).setCell ⟨Z,1,fW⟩ u1).setCell ⟨Z,2,fW⟩ u2).setCell ⟨Z,3,fW⟩ u3).setCell ⟨Z,4,fW⟩ u4) Z t #[u0,u1,u2,u3,u4]:=by
 obtain⟨l⟩:=cs
 match l,hc with
 |[a,b,c,d,e],_=>simpa using ((((h.ae 0 u0).ae 1 u1).ae 2 u2).ae 3 u3).ae 4 u4
def zcr (w:j2) (hd:Bool) (a:Aut) (s:ByteArray) (b:Bool) (e:Ending) (w':j2):Prop:=
 ∃ A n c A' n' c',e=j7 (.tuple #[j4 #[j9 hd,a.al,fF A n c,fF A' n' c',s],j9 b])/\zT w' w.heap.size A n c A' n' c' a/\Ext w w'
def aut0:Aut:=⟨0,[],[]⟩
theorem zjT (w:j2) (base:Nat):zT w base fW 0 0 fW 0 0 aut0:=⟨⟨[],World.ownsRow_nil _ _ _ _,zB.nil _ _⟩,rfl,World.ownsRow_nil _ _ _ _,rfl⟩
def okC (cd:Int) (a:Aut) (s:ByteArray):Bool:=(decide (cd=0) || decide (cd=1))&&zP (decide (cd=0)) a s
theorem okC0 (a:Aut) (s:ByteArray):okC 0 a s=zP jV a s:=by simp [okC]
theorem okC1 (a:Aut) (s:ByteArray):okC 1 a s=zP j3 a s:=by simp [okC]
def NewC (w W:j2) (G:Nat) (hd:Bool) (a:Aut) (s:ByteArray) (B:Option Addr) (m d:Nat) (B':Option Addr) (m' d':Nat):Prop:=
 Blk W G 60 #[j9 hd,a.al,fF B m d,fF B' m' d',s]/\zT W w.heap.size B m d B' m' d' a/\Ext w W/\w.heap.size<=G
theorem zT.av {w':j2} {base G:Nat}      (h:zT w base A n c A' n' c' a)(hB:Blk w G 60 cs)(hf:Frm (fun k=>k=G) w w'):zT w' base A n c A' n' c' a:=by
 obtain⟨⟨rows,h1,h2⟩,h3,h4,h5⟩:=h;exact⟨⟨rows,zf h1 hf (fun b hb e=>zr h1 hB dM hb e),h2.frm hf (fun i row b hr hb e=>by
  obtain⟨l,_,d⟩:=h2.row hr;exact zr d hB dM hb e)⟩,h3,zf h4 hf (fun b hb e=>zr h4 hB dM hb e),h5⟩
theorem yX14a3 {P:Prop}(h:P:=by
 rintro e w4 ⟨B,m,d,B',m',d',rfl,own4,hx4⟩;replace own4:=own4.less hx0.size;replace hx0:=hx0.trans hx4;refine hK.out _ _ hx0 ?_;refine pT ?_;refine uQ ?_;refine ze fun K hK=>?_;go_simp;have hx1:=(Ext.refl w4).alloc (.cells #[.bool false,(0:Int),(),(),.string ⟨#[]⟩] 60);have hG:=hx0.size;replace own4:=own4.ext hx1;replace hx0:=hx0.trans hx1;refine hK.out _ _ hx0 ?_;generalize U0:w4.alloc _=wg at *;have hb:=Ext.bl_ U0;clear U0;generalize w4.heap.size=G at *;refine pT ?_;refine uQ ?_;have cG:=hb.cell;have fG:=hb.frozen;refine zb fun K hK=>?_;go_simp;refine hK.out _ _ ?_;refine zg ?_;have hfl:=zaJ wg G (.bool true) (.int .i64 a.al) (.slice B m d) (.slice B' m' d') (.string s);have zku:NewC w2 (((((wg.setCell G (.bool true)).setCell ⟨G,1,none⟩ a.al).setCell ⟨G,2,none⟩ (.slice B m d)).setCell ⟨G,3,none⟩ (.slice B' m' d')).setCell ⟨G,4,none⟩ s) G true a s B m d B' m' d':=⟨zaI hb rfl _ _ _ _ _,own4.av hb hfl,hx0.frm hfl (fun k hk e=>oM),hG⟩;go_wp2_with fail
 go_meet;exact⟨G,_,_,_,_,_,_,rfl,zku⟩
 ):P:=h
theorem yX14a4 {P:Prop}(h:P:=by
 rintro e w4 ⟨B,m,d,B',m',d',rfl,own4,hx4⟩;replace own4:=own4.less hx0.size;replace hb:=hb.ext hx4;replace hx0:=hx0.trans hx4;refine hK.out _ _ hx0 ?_;refine pT ?_;refine uQ ?_;have cG:=hb.cell;have fG:=hb.frozen;refine zb fun K hK=>?_;go_simp;refine hK.out _ _ ?_;refine zg ?_;have hfl:=zaJ w4 G (.bool true) (.int .i64 a.al) (.slice B m d) (.slice B' m' d') (.string s);have zku:NewC w2 (((((w4.setCell G (.bool true)).setCell ⟨G,1,none⟩ a.al).setCell ⟨G,2,none⟩ (.slice B m d)).setCell ⟨G,3,none⟩ (.slice B' m' d')).setCell ⟨G,4,none⟩ s) G true a s B m d B' m' d':=⟨zaI hb rfl _ _ _ _ _,own4.av hb hfl,hx0.frm hfl (fun k hk e=>oM),hG⟩;go_wp2_with fail
 go_meet;exact⟨G,_,_,_,_,_,_,rfl,zku⟩
 ):P:=h
theorem zfb {s:ByteArray} (h:zK w lo hi A n A' n' a)(hs:a.size<=1048576)(hs9:s.size<=9223372036854775807)(hv:zP jV a s=jV) :
  j8 j5 113 #[j4 #[(0:Int),a.al,fF A n c,fF A' n' c',s,ro]] w (zcr w jV a s jV):=by
 have r:=za hv;clear hv;have HS:=za (fun W (hW:Ext w W)=>h.ext hW);have u:=hs;clear h
 go_enter Tryz.func113,Tryz.ntmps113
 go_upto_region 3 with fail
 generalize U0:(w.alloc _).alloc _=w2 at *;obtain⟨hw2,b1,t⟩:=gI U0;have p:w.heap.size+2=w2.heap.size:=by rw [<- U0];simp
 have j:=b1.cell;clear U0;clear j
 go_cut [4] (fun v wx=>∃ G B m d B' m' d',v=.pointer (fV ⟨G,0,fW⟩)/\NewC w2 wx G jV a s B m d B' m' d')
 case first =>
  have c1:=fun W (hW:Ext w2 W)=>(b1.ext hW).cell;have hww:=cY w2;refine uR (fun X=>Ext w2 X) [10] (zx.app [0,1,2,3,4,6,7] (zx.two 5 (zx.of [8,9,10]) 9 (zx.of [5,8,10]))) ?_;refine uQ ?_;have hx0:Ext w2 w2.drew:=hww.drew;generalize w2.drew=wd at *;refine zm (fun K hK=>?_) (fun K hK=>?_)
  ·go_simp;refine (zaT (HS.out _ (hw2.trans hx0)) hs).mono ?_;exact yX14a3
  ·go_simp;have hx1:=(cY wd).alloc (.cells #[j9 j3,(0:Int),(),(),kC ⟨#[]⟩] 60);have hG:=hx0.size;replace hx0:=hx0.trans hx1;refine hK.out _ _ hx0 ?_;generalize U0:wd.alloc _=wg at *;have hb:=dZ U0;clear U0;generalize wd.heap.size=G at *;refine pT ?_;refine uQ ?_;refine ze fun K hK=>?_;go_simp;refine (zaT (HS.out _ (hw2.trans hx0)) hs).mono ?_;exact yX14a4
 case rest =>
  obtain⟨G,B,m,d,B',m',d',rfl,hb,own4,f,hG⟩:=hcut;have q:=hb.cell;have j:=(b1.ext f).cell;go_wp2_with fail
  refine (zcH _ _ _ _ _ _ _ _ _ _ _ _ own4.reads hs9).mono ?_;rw [r.out];rintro e w5 ⟨rfl,i⟩;clear q j;replace hb:=hb.ext i;replace own4:=own4.ext i;replace f:=f.trans i;have q:=hb.cell;have j:=(b1.ext f).cell;have g:=t.ext f;have x:=g.cell;have y:=g.frozen;have hfl:=zaJ w5 (w.heap.size+1) (.bool jV) (.int iX a.al) (fF B m d) (fF B' m' d') (.string s);have l:=zaI g rfl (.bool jV) (.int iX a.al) (fF B m d) (fF B' m' d') (.string s);have o:=(hw2.trans f).frm hfl (fun k hk e=>oM);have zku:=za (show zcr w jV a s jV (j7 (.tuple #[j4 #[j9 jV,a.al,fF B m d,fF B' m' d',s],j9 jV])) (((((w5.setCell ⟨w.heap.size+1,0,fW⟩ (.bool jV)).setCell ⟨w.heap.size+1,1,fW⟩ a.al).setCell ⟨w.heap.size+1,2,fW⟩ (fF B m d)).setCell ⟨w.heap.size+1,3,fW⟩ (fF B' m' d')).setCell ⟨w.heap.size+1,4,fW⟩ s) from ⟨B,m,d,B',m',d',rfl,(own4.keep hfl (fun b h1 e=>oM)).less oM,o⟩);go_wp2_with fail
  generalize (((((w5.setCell ⟨w.heap.size+1,0,fW⟩ (.bool jV)).setCell ⟨w.heap.size+1,1,fW⟩ a.al).setCell ⟨w.heap.size+1,2,fW⟩ (fF B m d)).setCell ⟨w.heap.size+1,3,fW⟩ (fF B' m' d')).setCell ⟨w.heap.size+1,4,fW⟩ s)=z at *;have cf:=l.cell;exact bodyPost_ret (v:=.tuple #[j4 #[j9 jV,a.al,fF B m d,fF B' m' d',s],j9 jV]) (by simp [results,Tryz.results113,go_sem,cf]) rfl zku.out
theorem zfg {s:ByteArray} (h:zK w lo hi A n A' n' a)(hs:a.size<=1048576)(hs9:s.size<=9223372036854775807)(hv:zP jV a s=jV) :
  j8 j5 114 #[j4 #[(0:Int),a.al,fF A n c,fF A' n' c',s,ro]] w (zcr w jV a s jV):=by
 have r:=za hv;clear hv;have HS:=za (fun W (hW:Ext w W)=>h.ext hW);have u:=hs;clear h
 go_enter Tryz.func114,Tryz.ntmps114
 go_upto_region 1 with fail
 generalize U0:(w.alloc _).alloc _=w2 at *;obtain⟨hw2,b1,t⟩:=gI U0;have o:w.heap.size+2=w2.heap.size:=by rw [<- U0];simp
 clear U0
 go_cut [4] (fun v wx=>∃ G B m d B' m' d',v=.pointer (fV ⟨G,0,fW⟩)/\NewC w2 wx G jV a s B m d B' m' d')
 case first =>
  have c1:=fun W (hW:Ext w2 W)=>(b1.ext hW).cell;have hww:=cY w2;refine uR (fun X=>Ext w2 X) [10] (zx.app [0,1,2,3,4,6,7] (zx.two 5 (zx.of [8,9,10]) 9 (zx.of [5,8,10]))) ?_;refine uQ ?_;have hx0:Ext w2 w2.drew:=hww.drew;generalize w2.drew=wd at *;refine zm (fun K hK=>?_) (fun K hK=>?_)
  ·go_simp;refine (zaX (HS.out _ (hw2.trans hx0)) hs).mono ?_;exact yX14a3
  ·go_simp;have hx1:=(cY wd).alloc (.cells #[j9 j3,(0:Int),(),(),kC ⟨#[]⟩] 60);have hG:=hx0.size;replace hx0:=hx0.trans hx1;refine hK.out _ _ hx0 ?_;generalize U0:wd.alloc _=wg at *;have hb:=dZ U0;clear U0;generalize wd.heap.size=G at *;refine pT ?_;refine uQ ?_;refine ze fun K hK=>?_;go_simp;refine (zaX (HS.out _ (hw2.trans hx0)) hs).mono ?_;exact yX14a4
 case rest =>
  obtain⟨G,B,m,d,B',m',d',rfl,hb,own4,f,hG⟩:=hcut;have q:=hb.cell;have p:=(b1.ext f).cell;go_wp2_with fail
  refine (zcJ _ _ _ _ _ _ _ _ _ _ _ _ own4.reads hs9).mono ?_;rw [r.out];rintro e w5 ⟨rfl,i⟩;clear q p;replace hb:=hb.ext i;replace own4:=own4.ext i;replace f:=f.trans i;have q:=hb.cell;have p:=(b1.ext f).cell;have g:=t.ext f;have x:=g.cell;have y:=g.frozen;have hfl:=zaJ w5 (w.heap.size+1) (.bool jV) (.int iX a.al) (fF B m d) (fF B' m' d') (.string s);have j:=zaI g rfl (.bool jV) (.int iX a.al) (fF B m d) (fF B' m' d') (.string s);have l:=(hw2.trans f).frm hfl (fun k hk e=>oM);have zku:=za (show zcr w jV a s jV (j7 (.tuple #[j4 #[j9 jV,a.al,fF B m d,fF B' m' d',s],j9 jV])) (((((w5.setCell ⟨w.heap.size+1,0,fW⟩ (.bool jV)).setCell ⟨w.heap.size+1,1,fW⟩ a.al).setCell ⟨w.heap.size+1,2,fW⟩ (fF B m d)).setCell ⟨w.heap.size+1,3,fW⟩ (fF B' m' d')).setCell ⟨w.heap.size+1,4,fW⟩ s) from ⟨B,m,d,B',m',d',rfl,(own4.keep hfl (fun b h1 e=>oM)).less oM,l⟩);go_wp2_with fail
  generalize (((((w5.setCell ⟨w.heap.size+1,0,fW⟩ (.bool jV)).setCell ⟨w.heap.size+1,1,fW⟩ a.al).setCell ⟨w.heap.size+1,2,fW⟩ (fF B m d)).setCell ⟨w.heap.size+1,3,fW⟩ (fF B' m' d')).setCell ⟨w.heap.size+1,4,fW⟩ s)=z at *;have cf:=j.cell;exact bodyPost_ret (v:=.tuple #[j4 #[j9 jV,a.al,fF B m d,fF B' m' d',s],j9 jV]) (by simp [results,Tryz.results114,go_sem,cf]) rfl zku.out
theorem yX14b1 {P:Prop}(h:P:=by
 rintro e w4 ⟨B,m,d,B',m',d',rfl,own4,hx4⟩;replace own4:=own4.less hx0.size;replace hx0:=hx0.trans hx4;refine hK.out _ _ hx0 ?_;refine pT ?_;refine uQ ?_;refine ze fun K hK=>?_;go_simp;have hx1:=(Ext.refl w4).alloc (.cells #[.bool false,(0:Int),(),(),.string ⟨#[]⟩] 60);have hG:=hx0.size;replace own4:=own4.ext hx1;replace hx0:=hx0.trans hx1;refine hK.out _ _ hx0 ?_;generalize U0:w4.alloc _=wg at *;have hb:=Ext.bl_ U0;clear U0;generalize w4.heap.size=G at *;refine pT ?_;refine uQ ?_;have cG:=hb.cell;have fG:=hb.frozen;refine zb fun K hK=>?_;go_simp;refine hK.out _ _ ?_;refine zg ?_;have hfl:=zaJ wg G (.bool false) (.int .i64 a.al) (.slice B m d) (.slice B' m' d') (.string s);have zku:NewC w2 (((((wg.setCell G (.bool false)).setCell ⟨G,1,none⟩ a.al).setCell ⟨G,2,none⟩ (.slice B m d)).setCell ⟨G,3,none⟩ (.slice B' m' d')).setCell ⟨G,4,none⟩ s) G false a s B m d B' m' d':=⟨zaI hb rfl _ _ _ _ _,own4.av hb hfl,hx0.frm hfl (fun k hk e=>oM),hG⟩;go_wp2_with fail
 go_meet;exact⟨G,_,_,_,_,_,_,rfl,zku⟩
 ):P:=h
theorem yX14b3 {P:Prop}(h:P:=by
 rintro e w4 ⟨B,m,d,B',m',d',rfl,own4,hx4⟩;replace own4:=own4.less hx0.size;replace hb:=hb.ext hx4;replace hx0:=hx0.trans hx4;refine hK.out _ _ hx0 ?_;refine pT ?_;refine uQ ?_;have cG:=hb.cell;have fG:=hb.frozen;refine zb fun K hK=>?_;go_simp;refine hK.out _ _ ?_;refine zg ?_;have hfl:=zaJ w4 G (.bool false) (.int .i64 a.al) (.slice B m d) (.slice B' m' d') (.string s);have zku:NewC w2 (((((w4.setCell G (.bool false)).setCell ⟨G,1,none⟩ a.al).setCell ⟨G,2,none⟩ (.slice B m d)).setCell ⟨G,3,none⟩ (.slice B' m' d')).setCell ⟨G,4,none⟩ s) G false a s B m d B' m' d':=⟨zaI hb rfl _ _ _ _ _,own4.av hb hfl,hx0.frm hfl (fun k hk e=>oM),hG⟩;go_wp2_with fail
 go_meet;exact⟨G,_,_,_,_,_,_,rfl,zku⟩
 ):P:=h
theorem zfc {s:ByteArray} (h:zK w lo hi A n A' n' a)(hs:a.size<=1048576)(hs9:s.size<=9223372036854775807)(hv:zP j3 a s=jV) :
  j8 j5 113 #[j4 #[(1:Int),a.al,fF A n c,fF A' n' c',s,ro]] w (zcr w j3 a s jV):=by
 have r:=za hv;clear hv;have HS:=za (fun W (hW:Ext w W)=>h.ext hW);have u:=hs;clear h
 go_enter Tryz.func113,Tryz.ntmps113
 go_upto_region 3 with fail
 generalize U0:(w.alloc _).alloc _=w2 at *;obtain⟨hw2,b1,t⟩:=gI U0;have p:w.heap.size+2=w2.heap.size:=by rw [<- U0];simp
 have j:=b1.cell;clear U0;clear j
 go_cut [4] (fun v wx=>∃ G B m d B' m' d',v=.pointer (fV ⟨G,0,fW⟩)/\NewC w2 wx G j3 a s B m d B' m' d')
 case first =>
  have c1:=fun W (hW:Ext w2 W)=>(b1.ext hW).cell;have hww:=cY w2;refine uR (fun X=>Ext w2 X) [10] (zx.app [0,1,2,3,4,6,7] (zx.two 5 (zx.of [8,9,10]) 9 (zx.of [5,8,10]))) ?_;refine uQ ?_;have hx0:Ext w2 w2.drew:=hww.drew;generalize w2.drew=wd at *;refine zm (fun K hK=>?_) (fun K hK=>?_)
  ·go_simp;refine (zaT (HS.out _ (hw2.trans hx0)) hs).mono ?_;exact yX14b1
  ·go_simp;have hx1:=(cY wd).alloc (.cells #[j9 j3,(0:Int),(),(),kC ⟨#[]⟩] 60);have hG:=hx0.size;replace hx0:=hx0.trans hx1;refine hK.out _ _ hx0 ?_;generalize U0:wd.alloc _=wg at *;have hb:=dZ U0;clear U0;generalize wd.heap.size=G at *;refine pT ?_;refine uQ ?_;refine ze fun K hK=>?_;go_simp;refine (zaT (HS.out _ (hw2.trans hx0)) hs).mono ?_;exact yX14b3
 case rest =>
  obtain⟨G,B,m,d,B',m',d',rfl,hb,own4,f,hG⟩:=hcut;have q:=hb.cell;have j:=(b1.ext f).cell;go_wp2_with fail
  refine (zcH _ _ _ _ _ _ _ _ _ _ _ _ own4.reads hs9).mono ?_;rw [r.out];rintro e w5 ⟨rfl,i⟩;clear q j;replace hb:=hb.ext i;replace own4:=own4.ext i;replace f:=f.trans i;have q:=hb.cell;have j:=(b1.ext f).cell;have g:=t.ext f;have x:=g.cell;have y:=g.frozen;have hfl:=zaJ w5 (w.heap.size+1) (.bool j3) (.int iX a.al) (fF B m d) (fF B' m' d') (.string s);have l:=zaI g rfl (.bool j3) (.int iX a.al) (fF B m d) (fF B' m' d') (.string s);have o:=(hw2.trans f).frm hfl (fun k hk e=>oM);have zku:=za (show zcr w j3 a s jV (j7 (.tuple #[j4 #[j9 j3,a.al,fF B m d,fF B' m' d',s],j9 jV])) (((((w5.setCell ⟨w.heap.size+1,0,fW⟩ (.bool j3)).setCell ⟨w.heap.size+1,1,fW⟩ a.al).setCell ⟨w.heap.size+1,2,fW⟩ (fF B m d)).setCell ⟨w.heap.size+1,3,fW⟩ (fF B' m' d')).setCell ⟨w.heap.size+1,4,fW⟩ s) from ⟨B,m,d,B',m',d',rfl,(own4.keep hfl (fun b h1 e=>oM)).less oM,o⟩);go_wp2_with fail
  generalize (((((w5.setCell ⟨w.heap.size+1,0,fW⟩ (.bool j3)).setCell ⟨w.heap.size+1,1,fW⟩ a.al).setCell ⟨w.heap.size+1,2,fW⟩ (fF B m d)).setCell ⟨w.heap.size+1,3,fW⟩ (fF B' m' d')).setCell ⟨w.heap.size+1,4,fW⟩ s)=z at *;have cf:=l.cell;exact bodyPost_ret (v:=.tuple #[j4 #[j9 j3,a.al,fF B m d,fF B' m' d',s],j9 jV]) (by simp [results,Tryz.results113,go_sem,cf]) rfl zku.out
theorem yX14a1 {P:Prop}(h:P:=by
 have c1:=fun W (hW:Ext w2 W)=>(b1.ext hW).cell;have hww:=Ext.refl w2;refine uR (fun X=>Ext w2 X) [10] (zx.app [0,1,2,3,4,6,7] (zx.two 5 (zx.of [8,9,10]) 9 (zx.of [5,8,10]))) ?_;refine uQ ?_;have hx0:Ext w2 w2.drew:=hww.drew;generalize w2.drew=wd at *;refine zm (fun K hK=>?_) (fun K hK=>?_)
 ·go_simp;refine (zaX (HS.out _ (hw2.trans hx0)) hs).mono ?_;exact yX14b1
 ·go_simp;have hx1:=(Ext.refl wd).alloc (.cells #[.bool false,(0:Int),(),(),.string ⟨#[]⟩] 60);have hG:=hx0.size;replace hx0:=hx0.trans hx1;refine hK.out _ _ hx0 ?_;generalize U0:wd.alloc _=wg at *;have hb:=Ext.bl_ U0;clear U0;generalize wd.heap.size=G at *;refine pT ?_;refine uQ ?_;refine ze fun K hK=>?_;go_simp;refine (zaX (HS.out _ (hw2.trans hx0)) hs).mono ?_;exact yX14b3
 ):P:=h
theorem zfh {s:ByteArray} (h:zK w lo hi A n A' n' a)(hs:a.size<=1048576)(hs9:s.size<=9223372036854775807)(hv:zP j3 a s=jV) :
  j8 j5 114 #[j4 #[(1:Int),a.al,fF A n c,fF A' n' c',s,ro]] w (zcr w j3 a s jV):=by
 have r:=za hv;clear hv;have HS:=za (fun W (hW:Ext w W)=>h.ext hW);have u:=hs;clear h
 go_enter Tryz.func114,Tryz.ntmps114
 go_upto_region 1 with fail
 generalize U0:(w.alloc _).alloc _=w2 at *;obtain⟨hw2,b1,t⟩:=gI U0;have o:w.heap.size+2=w2.heap.size:=by rw [<- U0];simp
 clear U0
 go_cut [4] (fun v wx=>∃ G B m d B' m' d',v=.pointer (fV ⟨G,0,fW⟩)/\NewC w2 wx G j3 a s B m d B' m' d')
 case first =>
  exact yX14a1
 case rest =>
  obtain⟨G,B,m,d,B',m',d',rfl,hb,own4,f,hG⟩:=hcut;have q:=hb.cell;have p:=(b1.ext f).cell;go_wp2_with fail
  refine (zcJ _ _ _ _ _ _ _ _ _ _ _ _ own4.reads hs9).mono ?_;rw [r.out];rintro e w5 ⟨rfl,i⟩;clear q p;replace hb:=hb.ext i;replace own4:=own4.ext i;replace f:=f.trans i;have q:=hb.cell;have p:=(b1.ext f).cell;have g:=t.ext f;have x:=g.cell;have y:=g.frozen;have hfl:=zaJ w5 (w.heap.size+1) (.bool j3) (.int iX a.al) (fF B m d) (fF B' m' d') (.string s);have j:=zaI g rfl (.bool j3) (.int iX a.al) (fF B m d) (fF B' m' d') (.string s);have l:=(hw2.trans f).frm hfl (fun k hk e=>oM);have zku:=za (show zcr w j3 a s jV (j7 (.tuple #[j4 #[j9 j3,a.al,fF B m d,fF B' m' d',s],j9 jV])) (((((w5.setCell ⟨w.heap.size+1,0,fW⟩ (.bool j3)).setCell ⟨w.heap.size+1,1,fW⟩ a.al).setCell ⟨w.heap.size+1,2,fW⟩ (fF B m d)).setCell ⟨w.heap.size+1,3,fW⟩ (fF B' m' d')).setCell ⟨w.heap.size+1,4,fW⟩ s) from ⟨B,m,d,B',m',d',rfl,(own4.keep hfl (fun b h1 e=>oM)).less oM,l⟩);go_wp2_with fail
  generalize (((((w5.setCell ⟨w.heap.size+1,0,fW⟩ (.bool j3)).setCell ⟨w.heap.size+1,1,fW⟩ a.al).setCell ⟨w.heap.size+1,2,fW⟩ (fF B m d)).setCell ⟨w.heap.size+1,3,fW⟩ (fF B' m' d')).setCell ⟨w.heap.size+1,4,fW⟩ s)=z at *;have cf:=j.cell;exact bodyPost_ret (v:=.tuple #[j4 #[j9 j3,a.al,fF B m d,fF B' m' d',s],j9 jV]) (by simp [results,Tryz.results114,go_sem,cf]) rfl zku.out
theorem zfB {s:ByteArray} (h:zK w lo hi A n A' n' a)(hs:a.size<=1048576)(h0:cd≠0)(h1:cd≠1) :
  j8 j5 113 #[j4 #[cd,a.al,fF A n c,fF A' n' c',s,ro]] w (zcr w j3 aut0 ⟨#[]⟩ j3):=by
 have j:(cd==0)=j3:=by simpa using h0
 have l:(cd != 0)=jV:=by simpa using h0
 have m:(cd != 1)=jV:=by simpa using h1
 clear h0 h1;have HS:=za (fun W (hW:Ext w W)=>h.ext hW);have o:=hs;clear h
 go_enter Tryz.func113,Tryz.ntmps113
 go_upto_region 1 with fail
 generalize U0:(w.alloc _).alloc _=w2 at *;obtain⟨hw2,b1,i⟩:=gI U0;have g:w.heap.size+2=w2.heap.size:=by rw [<- U0];simp
 clear U0;have r:=b1.cell;have b:=i;have p:=b.cell;have q:=b.frozen;have hfl:=zaJ w2 (w.heap.size+1) (.bool j3) (.int iX 0) (fF fW 0 0) (fF fW 0 0) (.string ⟨#[]⟩);have d:=zaI b rfl (.bool j3) (.int iX 0) (fF fW 0 0) (fF fW 0 0) (.string ⟨#[]⟩);have f:=hw2.frm hfl (fun k hk e=>oM);have zku:=za (show zcr w j3 aut0 ⟨#[]⟩ j3 (j7 (.tuple #[j4 #[j9 j3,(0:Int),(),(),kC ⟨#[]⟩],j9 j3])) (((((w2.setCell ⟨w.heap.size+1,0,fW⟩ (.bool j3)).setCell ⟨w.heap.size+1,1,fW⟩ (0:Int)).setCell ⟨w.heap.size+1,2,fW⟩ ()).setCell ⟨w.heap.size+1,3,fW⟩ ()).setCell ⟨w.heap.size+1,4,fW⟩ (.string ⟨#[]⟩)) from ⟨fW,0,0,fW,0,0,rfl,zjT _ _,f⟩);go_wp2_with fail
 generalize (((((w2.setCell ⟨w.heap.size+1,0,fW⟩ (.bool j3)).setCell ⟨w.heap.size+1,1,fW⟩ (0:Int)).setCell ⟨w.heap.size+1,2,fW⟩ ()).setCell ⟨w.heap.size+1,3,fW⟩ ()).setCell ⟨w.heap.size+1,4,fW⟩ (.string ⟨#[]⟩))=t at *;have cf:=d.cell;exact bodyPost_ret (v:=.tuple #[j4 #[j9 j3,(0:Int),(),(),kC ⟨#[]⟩],j9 j3]) (by simp [results,Tryz.results113,go_sem,cf]) rfl zku.out
theorem zfH {s:ByteArray} (h:zK w lo hi A n A' n' a)(hs:a.size<=1048576)(h0:cd≠0)(h1:cd≠1) :
  j8 j5 114 #[j4 #[cd,a.al,fF A n c,fF A' n' c',s,ro]] w (zcr w j3 aut0 ⟨#[]⟩ j3):=by
 have o:(cd==0)=j3:=by simpa using h0
 have p:(cd != 0)=jV:=by simpa using h0
 have q:(cd != 1)=jV:=by simpa using h1
 clear h0 h1;have HS:=za (fun W (hW:Ext w W)=>h.ext hW);have r:=hs;clear h
 go_enter Tryz.func114,Tryz.ntmps114
 go_upto_region 1 with fail
 generalize U0:(w.alloc _).alloc _=w2 at *;obtain⟨hw2,b1,l⟩:=gI U0;have j:w.heap.size+2=w2.heap.size:=by rw [<- U0];simp
 clear U0
 go_cut [4] (fun v wx=>∃ G B m d B' m' d',v=.pointer (fV ⟨G,0,fW⟩)/\NewC w2 wx G j3 a s B m d B' m' d')
 case first =>
  exact yX14a1
 case rest =>
  obtain⟨G,B,m,d,B',m',d',rfl,hb,own4,f,hG⟩:=hcut;have x:=(b1.ext f).cell;have b:=l.ext f;have t:=b.cell;have u:=b.frozen;have hfl:=zaJ wc (w.heap.size+1) (.bool j3) (.int iX 0) (fF fW 0 0) (fF fW 0 0) (.string ⟨#[]⟩);have g:=zaI b rfl (.bool j3) (.int iX 0) (fF fW 0 0) (fF fW 0 0) (.string ⟨#[]⟩);have i:=(hw2.trans f).frm hfl (fun k hk e=>oM);have zku:=za (show zcr w j3 aut0 ⟨#[]⟩ j3 (j7 (.tuple #[j4 #[j9 j3,(0:Int),(),(),kC ⟨#[]⟩],j9 j3])) (((((wc.setCell ⟨w.heap.size+1,0,fW⟩ (.bool j3)).setCell ⟨w.heap.size+1,1,fW⟩ (0:Int)).setCell ⟨w.heap.size+1,2,fW⟩ ()).setCell ⟨w.heap.size+1,3,fW⟩ ()).setCell ⟨w.heap.size+1,4,fW⟩ (.string ⟨#[]⟩)) from ⟨fW,0,0,fW,0,0,rfl,zjT _ _,i⟩);go_wp2_with fail
  generalize (((((wc.setCell ⟨w.heap.size+1,0,fW⟩ (.bool j3)).setCell ⟨w.heap.size+1,1,fW⟩ (0:Int)).setCell ⟨w.heap.size+1,2,fW⟩ ()).setCell ⟨w.heap.size+1,3,fW⟩ ()).setCell ⟨w.heap.size+1,4,fW⟩ (.string ⟨#[]⟩))=y at *;have cf:=g.cell;exact bodyPost_ret (v:=.tuple #[j4 #[j9 j3,(0:Int),(),(),kC ⟨#[]⟩],j9 j3]) (by simp [results,Tryz.results114,go_sem,cf]) rfl zku.out
def hdX (cd:Int) (a:Aut) (s:ByteArray):Bool:=okC cd a s&&decide (cd=0)
def ziy (cd:Int) (a:Aut) (s:ByteArray):Aut:=if okC cd a s then a else aut0
def ziz (cd:Int) (a:Aut) (s:ByteArray):ByteArray:=if okC cd a s then s else ⟨#[]⟩
theorem zfA {s:ByteArray} (h:zK w lo hi A n A' n' a)(hs:a.size<=1048576)(hs9:s.size<=9223372036854775807)(h0:cd=0->zP jV a s=jV)(h1:cd=1->zP j3 a s=jV) :
  j8 j5 113 #[j4 #[cd,a.al,fF A n c,fF A' n' c',s,ro]] w (zcr w (hdX cd a s) (ziy cd a s) (ziz cd a s) (okC cd a s)):=by
 by_cases e0:cd=0
 ·subst e0;have:=zfb h hs hs9 (h0 rfl) (c:=c) (c':=c') (ro:=ro);simpa [hdX,ziy,ziz,okC0,h0 rfl] using this
 ·by_cases e1:cd=1
  ·subst e1;have:=zfc h hs hs9 (h1 rfl) (c:=c) (c':=c') (ro:=ro);simpa [hdX,ziy,ziz,okC1,h1 rfl] using this
  ·have:=zfB h hs e0 e1 (s:=s) (c:=c) (c':=c') (ro:=ro);simpa [hdX,ziy,ziz,okC,e0,e1] using this
theorem zfG {s:ByteArray} (h:zK w lo hi A n A' n' a)(hs:a.size<=1048576)(hs9:s.size<=9223372036854775807)(h0:cd=0->zP jV a s=jV)(h1:cd=1->zP j3 a s=jV) :
  j8 j5 114 #[j4 #[cd,a.al,fF A n c,fF A' n' c',s,ro]] w (zcr w (hdX cd a s) (ziy cd a s) (ziz cd a s) (okC cd a s)):=by
 by_cases e0:cd=0
 ·subst e0;have:=zfg h hs hs9 (h0 rfl) (c:=c) (c':=c') (ro:=ro);simpa [hdX,ziy,ziz,okC0,h0 rfl] using this
 ·by_cases e1:cd=1
  ·subst e1;have:=zfh h hs hs9 (h1 rfl) (c:=c) (c':=c') (ro:=ro);simpa [hdX,ziy,ziz,okC1,h1 rfl] using this
  ·have:=zfH h hs e0 e1 (s:=s) (c:=c) (c':=c') (ro:=ro);simpa [hdX,ziy,ziz,okC,e0,e1] using this
theorem zcw (s t:Sys) (p:Aut):iface s p t = -1\/∃ L:Nat,iface s p t=(L:Int):=by
 unfold iface;split
 ·exact .inr ⟨_,rfl⟩
 ·exact .inl rfl
section
variable {w:j2} {lo hi n c lo1 hi1 m d m' d' lo2 hi2 k c2:Nat} {A B B' C:Option Addr} {s t:Sys} {p:Aut}
theorem spec_TaskOf0 (hs:zY w lo hi A n s)(hp:zK w lo1 hi1 B m B' m' p)(ht:zY w lo2 hi2 C k t)(hif:iface s p t = -1) :
  j8 j5 202 #[j4 #[s.al,s.st,fF A n c],j4 #[p.al,fF B m d,fF B' m' d'],j4 #[t.al,t.st,fF C k c2]] w
   fun e w'=>e=j7 (.tuple #[j4 #[(0:Int),(0:Int),(),(0:Int),(),(),(0:Int)],j9 j3])/\Ext w w':=by
 have b:=za (fun W (hW:Ext w W)=>zew (c:=c) (d1:=d) (d1':=d') (c2:=c2) (hs.ext hW) (hp.ext hW) (ht.ext hW));rw [hif] at b;clear hs hp ht hif;obtain⟨i,U0⟩:∃ x,Hid ((((w.alloc (.cells #[s.al,s.st,fF A n c] 38)).alloc (.cells #[p.al,fF B m d,fF B' m' d'] 27)).alloc (.cells #[t.al,t.st,fF C k c2] 38)).alloc (.cells #[(0:Int),(0:Int),(),(0:Int),(),(),(0:Int)] 70)=x):=⟨_,za rfl⟩;have hx0:Ext w i:=(((((cY _).alloc _).alloc _).alloc _).alloc _).trans (eX U0.out);obtain⟨b1,j,l⟩:=zL (((cY _).alloc _).trans (eX U0.out));have b4:=dZ U0.out;simp only [World.size_alloc] at b4
 go_enter Tryz.func202,Tryz.ntmps202
 go_upto_region 1 with fail
 rw [U0.out] at *;have u:=b1.cells;have r:=j.cells;have y:=l.cells;have hww:=cY i;go_upto_region 3 with (first
  |(go_at_call 95;refine (b.out _ hx0).mono (mQ fun w1 a=>?_)))
 have g:=b4.ext a;have D:=g.cell;have z:=g.frozen;have h:=hx0.trans a;have q:Frm (fun k=>k=w.heap.size+1+1+1) w1 (((((((w1.setCell ⟨w.heap.size+1+1+1,0,fW⟩ (0:Int)).setCell ⟨w.heap.size+1+1+1,1,fW⟩ (0:Int)).setCell ⟨w.heap.size+1+1+1,2,fW⟩ ()).setCell ⟨w.heap.size+1+1+1,3,fW⟩ (0:Int)).setCell ⟨w.heap.size+1+1+1,4,fW⟩ ()).setCell ⟨w.heap.size+1+1+1,5,fW⟩ ()).setCell ⟨w.heap.size+1+1+1,6,fW⟩ (0:Int)):=
  ((((((dG w1 _ 0 _).trans (dG _ _ 1 _)).trans (dG _ _ 2 _)).trans (dG _ _ 3 _)).trans (dG _ _ 4 _)).trans (dG _ _ 5 _)).trans (dG _ _ 6 _)
 have o:Blk (((((((w1.setCell ⟨w.heap.size+1+1+1,0,fW⟩ (0:Int)).setCell ⟨w.heap.size+1+1+1,1,fW⟩ (0:Int)).setCell ⟨w.heap.size+1+1+1,2,fW⟩ ()).setCell ⟨w.heap.size+1+1+1,3,fW⟩ (0:Int)).setCell ⟨w.heap.size+1+1+1,4,fW⟩ ()).setCell ⟨w.heap.size+1+1+1,5,fW⟩ ()).setCell ⟨w.heap.size+1+1+1,6,fW⟩ (0:Int)) (w.heap.size+1+1+1) 70 #[.int iX 0,.int iX 0,fF fW 0 0,.int iX 0,fF fW 0 0,fF fW 0 0,.int iX 0]:=by
  simpa using ((((((g.ae 0 (.int iX 0)).ae 1 (.int iX 0)).ae 2 (fF fW 0 0)).ae 3 (.int iX 0)).ae 4 (fF fW 0 0)).ae 5 (fF fW 0 0)).ae 6 (.int iX 0)
 have f:=za (h.frm q (fun k hk e=>oM));go_wp2_with fail
 generalize (((((((w1.setCell ⟨w.heap.size+1+1+1,0,fW⟩ (0:Int)).setCell ⟨w.heap.size+1+1+1,1,fW⟩ (0:Int)).setCell ⟨w.heap.size+1+1+1,2,fW⟩ ()).setCell ⟨w.heap.size+1+1+1,3,fW⟩ (0:Int)).setCell ⟨w.heap.size+1+1+1,4,fW⟩ ()).setCell ⟨w.heap.size+1+1+1,5,fW⟩ ()).setCell ⟨w.heap.size+1+1+1,6,fW⟩ (0:Int))=W at *;have cf:=o.cell;exact bodyPost_ret (v:=.tuple #[j4 #[(0:Int),(0:Int),(),(0:Int),(),(),(0:Int)],j9 j3]) (by simp [results,Tryz.results202,go_sem,cf]) rfl ⟨rfl,f.out⟩
theorem spec_l12Run0 {K:Nat}(hs:zY w lo hi A n s)(hp:zK w lo1 hi1 B m B' m' p)(ht:zY w lo2 hi2 C k t)(hif:iface s p t = -1) :
  j8 j5 112 #[j4 #[s.al,s.st,fF A n c],j4 #[t.al,t.st,fF C k c2],j4 #[p.al,fF B m d,fF B' m' d'],K] w (zdK w ⟨3,noA,⟨#[]⟩,0⟩):=by
 have E:=za (fun W (hW:Ext w W)=>spec_TaskOf0 (c:=c) (d:=d) (d':=d') (c2:=c2) (hs.ext hW) (hp.ext hW) (ht.ext hW) hif);clear hs hp ht hif;obtain⟨q,U0⟩:∃ x,Hid (((((w.alloc (.cells #[s.al,s.st,fF A n c] 38)).alloc (.cells #[t.al,t.st,fF C k c2] 38)).alloc (.cells #[p.al,fF B m d,fF B' m' d'] 27)).alloc (.cells #[(0:Int),(0:Int),(),(),kC ⟨#[]⟩,(0:Int)] 42)).alloc (.cells #[(0:Int),(),()] 27)=x):=⟨_,za rfl⟩;have hx0:Ext w q:=((((((cY _).alloc _).alloc _).alloc _).alloc _).alloc _).trans (eX U0.out);obtain⟨b1,r,u⟩:=zL ((((cY _).alloc _).alloc _).trans (eX U0.out));have b4:=(Blk.new (((w.alloc (.cells #[s.al,s.st,fF A n c] 38)).alloc (.cells #[t.al,t.st,fF C k c2] 38)).alloc (.cells #[p.al,fF B m d,fF B' m' d'] 27)) 42 #[(0:Int),(0:Int),(),(),kC ⟨#[]⟩,(0:Int)]).ext ((cY _).alloc (.cells #[(0:Int),(),()] 27));have h:=dZ U0.out;simp only [World.size_alloc] at b4 h
 go_enter Tryz.func112,Tryz.ntmps112
 go_upto_region 1 with fail
 rw [U0.out] at *;have G:=b1.cells;have H:=r.cells;have F:=u.cells;have hww:=cY q;go_upto_region 2 with (first
  |(go_at_call 202;refine (E.out _ hx0).mono (mQ fun w1 b=>?_)))
 generalize U0:w1.alloc _=w2 at *;have a:Ext q w2:=(b.alloc _).trans (eX U0);clear U0;have g:=b4.ext a;have M:=g.cell;have J:=g.frozen;have f:=h.ext a;have L:=f.cell;have I:=f.frozen;obtain⟨y,l,o⟩:=zhu (v:=⟨3,noA,⟨#[]⟩,0⟩) (A:=fW) (n:=0) (c:=0) (A':=fW) (n':=0) (c':=0) (x:=0) (X:=fW) (k1:=0) (d1:=0) (X':=fW) (k1':=0) (d1':=0) (hx0.trans a) g f rfl rfl oM (zjT _ _);dsimp only [noA] at y l o;have z:=za l;have D:=za o;clear l o g f b1 r u b4 h;go_wp2_with fail
 generalize (((((((((w2.setCell ⟨w.heap.size+1+1+1,0,fW⟩ (3:Int)).setCell ⟨w.heap.size+1+1+1,1,fW⟩ (0:Int)).setCell ⟨w.heap.size+1+1+1,2,fW⟩ ()).setCell ⟨w.heap.size+1+1+1,3,fW⟩ ()).setCell ⟨w.heap.size+1+1+1,4,fW⟩ (.string ⟨#[]⟩)).setCell ⟨w.heap.size+1+1+1,5,fW⟩ (0:Int)).setCell ⟨w.heap.size+1+1+1+1,0,fW⟩ (0:Int)).setCell ⟨w.heap.size+1+1+1+1,1,fW⟩ ()).setCell ⟨w.heap.size+1+1+1+1,2,fW⟩ ())=W at *;have i:=z.out.cell;have j:=D.out.cell;exact bodyPost_ret (v:=.tuple #[j4 #[(3:Int),(0:Int),(),(),kC ⟨#[]⟩,(0:Int)],j4 #[(0:Int),(),()]]) (by simp [results,Tryz.results112,go_sem,i,j]) rfl y.out
end
noncomputable def vpT (s t:Sys) (p:Aut):Vd:=
 if iface s p t<0 then ⟨3,noA,⟨#[]⟩,0⟩ else runT s t p (iface s p t).toNat 12 0 ((zas (iface s p t).toNat (zu s p (iface s p t).toNat) [⟨#[]⟩] 11 [⟨#[]⟩]).map fun r=>(r,[⟨#[]⟩]))
theorem zgI (h:iface s p t = -1):vpT s t p=⟨3,noA,⟨#[]⟩,0⟩:=by unfold vpT;rw [if_pos oM]
theorem zgJ (h:iface s p t=(L:Int)):vpT s t p=runT s t p L 12 0 ((zas L (zu s p L) [⟨#[]⟩] 11 [⟨#[]⟩]).map fun r=>(r,[⟨#[]⟩])):=by
 have e:(iface s p t).toNat=L:=oM;unfold vpT;rw [if_neg oM,e]
theorem iface_lt (h:iface s p t=(L:Int)):L<64:=by
 obtain⟨c,b,a⟩:=zbk (show 0<=iface s p t by omega);rw [zeC c b a] at h;have h1:=zac a;have h2:((s.al.toNat|||p.al.toNat)&&&t.al.toNat)<=t.al.toNat:=Nat.and_le_right;omega
theorem zhw (s t:Sys) (p:Aut):(vpT s t p).asm.size<=1048576/\(vpT s t p).tr.size<=4000:=by
 rcases zcw s t p with h|⟨L,h⟩
 ·rw [zgI h];exact⟨by show noA.size<=_;decide,dH _⟩
 ·rw [zgJ h];obtain⟨b,a,c⟩:=zbk (show 0<=iface s p t by omega);exact runT_size (iface_lt h) (by simp [zF,b,c]) a 12 0 _ (zfQ.new L _)
theorem valid_len (h:zl s=jV):s.edges.length<=1536:=by
 unfold zl at h;simp only [dI,decide_eq_true_eq,eK] at h;obtain⟨-,⟨h1,h2⟩,h3⟩:=h;have g:∀ (k:Nat) (e:Edg),s.edges[k]?=fV e->(k:Int)<=(e.fr*6+e.le)*16+e.ta/\(e.fr*6+e.le)*16+e.ta<1536:=by
  intro k
  induction k with
  |zero =>
   intro e he;have:=h3 0 (kK.2 (kB.1 he).1);unfold zbr at this;rw [he] at this;simp only [edgB,dI,decide_eq_true_eq] at this;obtain⟨⟨⟨h4,h5⟩,⟨j,l⟩,m,c⟩,-⟩:=this;unfold hasB at c;simp only [dI,decide_eq_true_eq] at c;omega
  |succ k ih =>
   intro e he;have hk:=(kB.1 he).1;have:=h3 (k+1) (kK.2 hk);unfold zbr at this;rw [he] at this;obtain⟨q,hq⟩:∃ q,s.edges[k]?=fV q:=⟨_,dC oM⟩;have n:=ih q hq;rw [show k+1 - 1=k by omega,hq] at this;simp only [edgB,dI,fN,decide_eq_true_eq] at this;obtain⟨⟨⟨h4,h5⟩,⟨j,l⟩,m,c⟩,d⟩:=this;unfold hasB at c;simp only [dI,decide_eq_true_eq] at c;have a:=d.resolve_left oM;have b:=h3 k (kK.2 oM);unfold zbr at b;rw [hq] at b;simp only [edgB,dI,fN,decide_eq_true_eq] at b;obtain⟨⟨⟨o,p⟩,⟨r,t⟩,u,i⟩,-⟩:=b;unfold hasB at i;simp only [dI,decide_eq_true_eq] at i;unfold ltE at a
   split at a
   ·split at a
    ·rw [decide_eq_true_eq] at a;omega
    ·rw [decide_eq_true_eq] at a;omega
   ·rw [decide_eq_true_eq] at a;omega
 rcases Nat.lt_or_ge 1536 s.edges.length with a|f
 ·have:=g 1536 _ (dC a);omega
 ·exact f
theorem runT_tr (s t:Sys) (p:Aut) (L f:Nat):∀ (k:Nat) (o:Option (List ByteArray × List ByteArray)),(runT s t p L f k o).tr=⟨#[]⟩\/(runT s t p L f k o).tr=zaq [s,t] p:=by
 induction f with
 |zero=>intro k o;exact .inl rfl
 |succ f ih =>
  intro k o;cases o with
  |none=>exact .inl rfl
  |some tab =>
   rw [runT];split
   ·exact .inl rfl
   ·split
    ·exact .inr rfl
    ·exact ih _ _
theorem vpT_word (hs:zl s=jV)(ht:zl t=jV)(hp:zj p=jV):zbh (vpT s t p).tr=jV:=by
 have a:zbh (⟨#[]⟩:ByteArray)=jV:=by unfold zbh;rfl
 rcases zcw s t p with h|⟨L,h⟩
 ·rw [zgI h];exact a
 ·rw [zgJ h];rcases runT_tr s t p L 12 0 ((zas L (zu s p L) [⟨#[]⟩] 11 [⟨#[]⟩]).map fun r=>(r,[⟨#[]⟩])) with e|e
  ·rw [e];exact a
  ·rw [e];exact (zcu (ss:=[s,t]) (p:=p) (zhr sM sM (by simp [hs,ht])) hp).1
theorem wl_wstr (h:∀ l∈v,l<6):wl (wstr v)=v:=by
 unfold wl wstr lbs;rw [strOfNums_data,List.map_map,List.map_map]
 conv=>rhs;rw [<- List.map_id v]
 refine List.map_congr_left fun l hl=>?_;have a:=h l hl;have b:∀ l,l<6->(UInt8.ofNat (97+l)).toNat - 97=l:=dM;have:=b l a;show (UInt8.ofNat (((97+l:Nat):Int)).toNat).toNat - 97=l;rw [Int.toNat_natCast];exact this
theorem vio_key (hss:∀ s∈ss,zl s=jV)(ha:zj a=jV)(hp:zj p=jV) (hv:∀ l∈v,l<6) :
  (∃ x,zbx (zcg ss a p) [0] v x/\zbS a p x=jV)↔zfN ss a p v:=by
 have g:∀ s∈ss,zez (zee s):=fun s hs=>zeI (zcl (hss s hs));have n:∀ m∈[zbD a,zbD p],zez m:=by simp;exact⟨zbE ha,zbE hp⟩
 have k:zH [zbD a,zbD p]=a.next.length*p.next.length:=by simp [zH,zaB,zbD]
 have r:=(zk ha).2.1;have t:=(zk hp).2.1;have b:∀ x,zbS a p x=zbS a p (x % zH [zbD a,zbD p]):=by
  intro x;unfold zbS;rw [k,Nat.mod_mul_left_mod,fJ,Nat.mod_mul_right_div_self,Nat.mod_mod]
 rw [zdr];have h1:=ziY n hv (fun y=>zbS a p y=jV) g;have h2:(∃ x,zbx (pnx (zbn ss [a,p])) [0] v x/\zbS a p x=jV)↔(∃ x,zbx (pnx (ss.map zee++[zbD a,zbD p])) [0] v x/\zbS a p (x % zH [zbD a,zbD p])=jV):=by
  constructor
  ·rintro ⟨x,h,c⟩;exact⟨x,h,by rw [<- b];exact c⟩
  ·rintro ⟨x,h,c⟩;exact⟨x,h,by rw [b];exact c⟩
 rw [h2,h1];unfold zfN;refine and_congr_right fun _=>?_;have f:=zem ha hv (q:=0) oM;have d:=zem hp hv (q:=0) oM;have i:(zar a 0 v*p.next.length+zar p 0 v) / p.next.length % a.next.length=zar a 0 v:=by
  rw [fJ,Nat.mul_add_div oM,Nat.div_eq_of_lt d,Nat.add_zero,iI f]
 have j:(zar a 0 v*p.next.length+zar p 0 v) % p.next.length=zar p 0 v:=by
  rw [fJ,Nat.mul_add_mod,iI d]
 constructor
 ·rintro ⟨y,o,c⟩;rw [(zhn ha hp hv y).1 o] at c;unfold zbS at c;rw [i,j] at c;simpa using c
 ·intro c;refine⟨_,(zhn ha hp hv _).2 rfl,?_⟩;unfold zbS;rw [i,j];simpa using c
def FstW (A:Nat) (B:List Nat->Prop) (v:List Nat):Prop:=ziv A v/\B v/\∀ u,ziv A u->zcU u<zcU v->¬ B u
theorem FstW.congr {A:Nat} {B C:List Nat->Prop} (h:FstW A B v)(he:∀ u,ziv A u->(B u↔C u)):FstW A C v:=
 ⟨h.1,(he v h.1).1 h.2.1,fun u hu hlt hc=>h.2.2 u hu hlt ((he u hu).2 hc)⟩
theorem zjq (hss:∀ s∈ss,zl s=jV)(ha:zj a=jV)(hp:zj p=jV) :
  (zkn ss a p=jV/\∃ v,vioW ss a p=wstr v/\FstW (zG ss|||a.al.toNat) (zfN ss a p) v)\/(zkn ss a p=j3/\vioW ss a p=wstr []/\∀ v,ziv (zG ss|||a.al.toNat) v->¬ zfN ss a p v):=by
 have m:∀ l∈letters (zG ss|||a.al.toNat) 6,l<6:=fun l hl=>(zC.1 hl).1
 by_cases hl:Lost (zcg ss a p) [0] (zbS a p) (letters (zG ss|||a.al.toNat) 6)
 ·obtain⟨c,d⟩:=zgB hl;refine .inr ⟨by unfold zkn;rw [d];rfl,by unfold vioW;rw [c],fun v b hb=>?_⟩;obtain⟨x,g,f⟩:=(vio_key hss ha hp (fun l hl=>(b l hl).1)).2 hb;have:=hl v (zek.2 b) x g;rw [f] at this;cases this
 ·obtain⟨v,h⟩:=zfo hl;obtain⟨c,d⟩:=zfz m h;obtain⟨i,j,k⟩:=h;have b:=zek.1 i;refine .inl ⟨by unfold zkn;rw [d];rfl,v,by unfold vioW;rw [c],b,(vio_key hss ha hp (fun l hl=>(b l hl).1)).1 j,fun u hu hlt hb=>?_⟩;obtain⟨x,g,f⟩:=(vio_key hss ha hp (fun l hl=>(hu l hl).1)).2 hb;have:=k u (zek.2 hu) hlt x g;rw [f] at this;cases this
theorem breaks_free :zfN ss free p v↔(∀ s∈ss,zjt s v)/\zaw p (zar p 0 v)=j3:=by
 unfold zfN;rw [runA_free];exact⟨fun h=>⟨h.1,h.2.2⟩,fun h=>⟨h.1,rfl,h.2⟩⟩
theorem zgy (h:zbT ss p=jV):zF ss=jV/\zj p=jV:=by
 unfold zbT zcI at h;simp only [dI] at h;exact h.1
theorem ziQ (h:zbT ss p=jV):∃ v,zaq ss p=wstr v/\FstW (zG ss) (fun v=>(∀ s∈ss,zjt s v)/\zaw p (zar p 0 v)=j3) v:=by
 obtain⟨h1,h2⟩:=zgy h;obtain⟨-,c⟩:=zbg h1;have hb:zkn ss free p=jV:=by unfold zbT at h;simp only [dI] at h;exact h.2
 have b:zG ss|||free.al.toNat=zG ss:=by rw [show free.al.toNat=0 from rfl,Nat.or_zero]
 rcases zjq (a:=free) c zdP h2 with ⟨-,v,h3,h4⟩|⟨h3,-,-⟩
 ·rw [b] at h4;exact⟨v,by unfold zaq zcI;rw [h1,h2];exact h3,h4.congr fun u _=>breaks_free⟩
 ·rw [hb] at h3;cases h3
theorem brok_top (h:zbT ss p=jV):topB ss (zaq ss p)=jV/\breakB p (zaq ss p)=jV:=by
 obtain⟨h1,h2⟩:=zgy h;obtain⟨v,h3,h4,⟨h5,c⟩,-⟩:=ziQ h;have b:=(zcu h1 h2).1;have a:wl (zaq ss p)=v:=by rw [h3];exact wl_wstr fun l hl=>(h4 l hl).1
 refine⟨top_iff.2 ⟨h1,b,by rw [a];exact h4,by rw [a];exact h5⟩,?_⟩;unfold breakB;rw [h2,b,a,c];rfl
theorem judge_zero (hs:zl s=jV)(hp:zj p=jV)(ht:zl t=jV)(ha:zj a=jV)(h:(zaN s p t L a).2=0):zcS s a p=jV/\zbt [t] a=jV:=by
 unfold zaN at h
 split at h
 ·cases h
 ·rename_i h1
  split at h
  ·split at h<;>cases h
  ·rename_i h2;refine⟨?_,?_⟩
   ·rw [underB_keeps,show zcs s a p=jV by unfold zcs;rw [hs,ha,hp];rfl];simpa using h1
   ·rw [zhD,show zcI [t] a=jV by unfold zcI;rw [ha,zhr sM sM (by simpa using ht)];rfl];simpa using h2
theorem zhW {x:Sys} {ts:List Sys}   {w:ByteArray}(hL:L=(x.al.toNat|||p.al.toNat)&&&zG ts)(hpa:zF (x :: ts)=jV)(hw:zbh w=jV)(hu:ziv (zG ts) (wl w))(hr:∀ t∈ts,zjt t (wl w))(hs:zu x p L (zbB w L)=j3):zbt (x :: ts) p=j3:=by
 refine zkm hL hpa hu hr fun hsafe=>?_;have h1:zu x p L (zbB w L)=jV:=by
  rw [zdh];refine⟨zda hw L,?_⟩;rw [zhx hw];exact hsafe
 rw [hs] at h1;cases h1
theorem judge_one (hL:L=(s.al.toNat|||p.al.toNat)&&&t.al.toNat)(hs:zl s=jV)(ht:zl t=jV)(h:(zaN s p t L a).2=1):zbt [s,t] p=j3:=by
 unfold zaN at h
 split at h
 ·cases h
 ·split at h
  ·rename_i h2
   split at h
   ·cases h
   ·rename_i h3;obtain⟨b,-⟩:=brok_top h2;obtain⟨-,c,d,f⟩:=top_iff.1 b;exact zhW (L:=L) (by rw [hL];simp [zG]) (zhr sM sM (by simp [hs,ht])) c d f (by simpa using h3)
  ·cases h
theorem bits_one:∀ (l:List (List Bool)),l.Nodup->(∀ x∈l,x.length=1)->l.length<=2:=by
 intro l hn hl;have h:l ⊆ [[jV],[j3]]:=by
  intro x hx;have:=hl x hx
  match x,this with
  |[jV],_=>simp
  |[j3],_=>simp
 simpa using List.Nodup.length_le_of_subset hn h
section
variable {L:Nat} {f:ByteArray->Bool} {rows cols:List ByteArray}
theorem rows_few (h:zbG L f rows cols)(hc:cols.length=1):rows.length<=2:=by
 have:=bits_one _ h.nd (fun x hx=>by
  obtain⟨y,-,rfl⟩:=List.mem_map.1 hx;unfold zbC;rw [dS];exact hc)
 simpa using this
theorem zhE:∀ (k:Nat) (rows:List ByteArray),zbG L f rows cols->rows.length+k<=12->zas L f cols k rows=fW->∃ rows',zbG L f rows' cols/\rows'.length=rows.length+k/\zaH L f rows' cols≠fW:=by
 intro k
 induction k with
 |zero =>
  intro rows h _ hn;refine⟨rows,h,rfl,fun ho=>?_⟩;rw [zcv 0 ho] at hn;cases hn
 |succ k ih =>
  intro rows h hk hn;cases ho:zaH L f rows cols with
  |none=>rw [zcv _ ho] at hn;cases hn
  |some z =>
   rw [zdc k ho] at hn;have h2:=h.grow oM ho;obtain⟨r,h3,h4,h5⟩:=ih _ h2 (by simp;omega) hn;exact⟨r,h3,by rw [h4];simp;omega,h5⟩
theorem zhV (L:Nat) (f:ByteArray->Bool):∃ r,zas L f [⟨#[]⟩] 11 [⟨#[]⟩]=fV r:=by
 cases h:zas L f [⟨#[]⟩] 11 [⟨#[]⟩] with
 |some r=>exact⟨r,rfl⟩
 |none =>
  obtain⟨r,h1,h2,-⟩:=zhE 11 _ (zbG.first L f) dM h
  have:=rows_few h1 rfl;rw [h2] at this;simp at this
end
structure VdOk (s t:Sys) (p:Aut) (L:Nat) (v:Vd):Prop where
 code:v.code=0\/v.code=1\/v.code=2
 holds:v.code=0->zj v.asm=jV/\v.asm.al=(L:Int)/\zcS s v.asm p=jV/\zbt [t] v.asm=jV/\v.ro<=v.asm.next.length
 none_:v.code≠0->v.asm=noA
 fails:v.code=1->zbt [s,t] p=j3/\v.tr=zaq [s,t] p
 quiet:v.code≠1->v.tr=⟨#[]⟩
 ro:1<=v.ro/\v.ro<=12
structure LnOk (L:Nat) (f:ByteArray->Bool) (k:Nat) (o:Option (List ByteArray × List ByteArray)):Prop where
 tab:zfQ L f o
 more:∀ rs cs,o=fV (rs,cs)->k<rs.length
 none_:o=fW->1<=k/\k<=12
theorem LnOk.start (L:Nat) (f:ByteArray->Bool):LnOk L f 0 ((zas L f [⟨#[]⟩] 11 [⟨#[]⟩]).map fun r=>(r,[⟨#[]⟩])):=by
 refine⟨zfQ.new L f,fun rs cs e=>((zfQ.new L f) rs cs e).1.r1,fun h=>?_⟩;obtain⟨r,a⟩:=zhV L f;rw [a] at h;cases h
theorem LnOk.ar {f:ByteArray->Bool} {rs cs:List ByteArray}(h:LnOk L f k (fV (rs,cs))) (x:ByteArray):LnOk L f (k+1) (zbd L f rs cs x):=by
 obtain⟨h1,h2⟩:=h.tab rs cs rfl;have h3:=h.more rs cs rfl;refine⟨zfQ.ar h1 x,fun r c e=>?_,fun _=>⟨oM,oH h1.r12⟩⟩;have:=(zhR h1 h2 e).1;omega
theorem runT_ok (hs:zl s=jV)(hp:zj p=jV)(ht:zl t=jV)(hL:L=(s.al.toNat|||p.al.toNat)&&&t.al.toNat)(h64:L<64) :
  ∀ (g k:Nat) (o:Option (List ByteArray × List ByteArray)),LnOk L (zu s p L) k o->12<=g+k->VdOk s t p L (runT s t p L g k o):=by
 have i:∀ k,1<=k/\k<=12->VdOk s t p L ⟨2,noA,⟨#[]⟩,k⟩:=fun k hk=>⟨.inr (.inr rfl),(fun h=>by cases h),fun _=>rfl,(fun h=>by cases h),fun _=>rfl,hk⟩;intro g
 induction g with
 |zero =>
  intro k o ho hg;rw [runT];cases o with
  |none=>exact i k (ho.none_ rfl)
  |some tab =>
   have h1:=(ho.tab tab.1 tab.2 rfl).1.r12;have h2:=ho.more tab.1 tab.2 rfl;omega
 |succ g ih =>
  intro k o ho hg;cases o with
  |none=>rw [runT];exact i k (ho.none_ rfl)
  |some tab =>
   obtain⟨b,c⟩:=tab;obtain⟨d,a⟩:=ho.tab b c rfl;have hk:=ho.more b c rfl;have j:=d.r12;have f:=zct d a h64;rw [runT];split
   ·rename_i hj;obtain⟨l,m⟩:=judge_zero hs hp ht f hj;refine⟨.inl rfl,fun _=>⟨f,rfl,l,m,?_⟩,fun h=>absurd rfl h,(fun h=>by cases h),fun _=>rfl,⟨by show 1<=k+1;omega,by show k+1<=12;omega⟩⟩;show k+1<=(b.map _).length;rw [dS];omega
   ·split
    ·rename_i hj;exact⟨.inr (.inl rfl),(fun h=>by cases h),fun _=>rfl,fun _=>⟨judge_one hL hs ht hj,rfl⟩,fun h=>absurd rfl h,⟨by show 1<=k+1;omega,by show k+1<=12;omega⟩⟩
    ·exact ih _ _ (ho.ar _) oM
theorem vpT_ok (h:iface s p t=(L:Int)):VdOk s t p L (vpT s t p):=by
 obtain⟨d,f,b⟩:=zbk (s:=s) (p:=p) (t:=t) oM;have c:L=(s.al.toNat|||p.al.toNat)&&&t.al.toNat:=by
  have:=zeC d f b;rw [h] at this;exact Int.ofNat.inj this
 have a:L<64:=by
  rw [c];have:=zac b;exact Nat.lt_of_le_of_lt Nat.and_le_right oM
 rw [zgJ h];exact runT_ok d f b c a 12 0 _ (LnOk.start _ _) oM
theorem vpT_fault (h:(vpT s t p).code=0):faultA s t p (vpT s t p).asm=0:=by
 rcases zcw s t p with a|⟨L,a⟩
 ·rw [zgI a] at h;cases h
 ·obtain⟨h1,h2,h3,h4,-⟩:=(vpT_ok a).holds h;exact zhJ.2 ⟨oM,h1,by rw [h2,a],h3,h4⟩
theorem find_adj (a:Nat->Bool) (n:Nat):(eU n).find? (fun k=>a k != a (k+1))=(eU n).find? (fun k=>a (k+1) != a 0):=by
 by_cases h:∃ k,k<n/\a (k+1)≠a 0
 ·have d:∃ k,(k<n/\a (k+1)≠a 0)/\∀ j,j<k->a (j+1)=a 0:=by
   have c:∀ m k,k<=m->k<n->a (k+1)≠a 0->∃ k,(k<n/\a (k+1)≠a 0)/\∀ j,j<k->a (j+1)=a 0:=by
    intro m
    induction m with
    |zero =>
     intro k hk hn hne;obtain rfl:k=0:=oM;exact⟨0,⟨hn,hne⟩,fun j hj=>oM⟩
    |succ m ih =>
     intro k hk hn hne
     by_cases hj:∃ j,j<k/\a (j+1)≠a 0
     ·obtain⟨j,h1,h2⟩:=hj;exact ih j oM oM h2
     ·exact⟨k,⟨hn,hne⟩,fun j hjk=>Classical.not_not.1 fun h=>hj ⟨j,hjk,h⟩⟩
   obtain⟨k,h1,h2⟩:=h;exact c k k (dE _) h1 h2
  obtain⟨k,⟨h1,h2⟩,h3⟩:=d;have b:∀ j,j<=k->a j=a 0:=by
   intro j hj;cases j with
   |zero=>rfl
   |succ j=>exact h3 j oM
  rw [zeR h1 (fun j hj=>by rw [b j oM,b (j+1) oM];simp) (by rw [b k (dE _)];simpa using fun h=>h2 h.symm),
   zeR h1 (fun j hj=>by rw [b (j+1) oM];simp) (by simpa using h2)]
 ·have b:∀ j,j<=n->a j=a 0:=by
   intro j hj;cases j with
   |zero=>rfl
   |succ j=>exact Classical.not_not.1 fun hne=>h ⟨j,oM,hne⟩
  rw [List.find?_eq_none.2 (fun k hk=>by rw [b k (by have:=kK.1 hk;omega),b (k+1) (by have:=kK.1 hk;omega)];simp),
   List.find?_eq_none.2 (fun k hk=>by rw [b (k+1) (by have:=kK.1 hk;omega)];simp)]
section
variable {L:Nat} {f:ByteArray->Bool} {rows cols:List ByteArray} {x:ByteArray}
noncomputable def zco (L:Nat) (f:ByteArray->Bool) (rows cols:List ByteArray) (x:ByteArray):Option ByteArray:=
 if zaw (zcV L f rows cols) (zar (zcV L f rows cols) 0 (wl x))=f x then fW
 else ((eU x.size).find? fun k=>zgL L f rows cols x (k+1) != f x).map fun k=>x.extract (k+1) x.size
theorem zhI (x:ByteArray):x.extract 0 x.size=x:=by
 apply ByteArray.ext;rw [ByteArray.data_extract];simp
theorem empty_append (x:ByteArray):(⟨#[]⟩:ByteArray)++x=x:=by
 apply ByteArray.ext;rw [ByteArray.data_append];simp
theorem zjm (hI:zbG L f rows cols)(hx:inB x L=jV)(h4:x.size<=4000):zdD L f rows cols x=zco L f rows cols x:=by
 have a:zgL L f rows cols x 0=f x:=by
  unfold zgL stT;rw [List.take_zero];show f (rows.getD 0 ⟨#[]⟩++_)=_;rw [dF,hI.r0,eM,zhI,empty_append]
 unfold zdD zco;rw [find_adj (zgL L f rows cols x),a]
 by_cases h:zaw (zcV L f rows cols) (zar (zcV L f rows cols) 0 (wl x))=f x
 ·rw [if_pos h,if_neg (by rintro ⟨-,h2⟩;exact h2 h)]
 ·rw [if_neg h,if_pos ⟨by rw [hx];simpa using h4,h⟩]
theorem zhO (hx:inB x L=jV) (k:Nat):inB (x.extract k x.size) L=jV:=by
 obtain⟨h1,h2⟩:=zeE.1 hx;have c:(x.extract k x.size).size<=x.size:=by rw [ByteArray.size_extract];omega
 have a:(x.extract k x.size).data.toList=x.data.toList.drop k:=by
  rw [ByteArray.data_extract,Array.toList_extract,List.extract_eq_take_drop,dK];rw [List.length_drop];show x.data.toList.length - k<=x.size - k;rw [Array.length_toList];exact dE _
 have d:zbh (x.extract k x.size)=jV:=by
  unfold zbh at h1 ⊢;simp only [dI,decide_eq_true_eq,eK] at h1 ⊢;refine⟨oM,fun b hb=>h1.2 b ?_⟩;rw [a] at hb;exact jL hb
 refine zeE.2 ⟨d,?_⟩;apply Nat.eq_of_testBit_eq;intro l;rw [fQ,Bool.and_eq_left_iff_imp];intro hl;have h3:l∈wl x:=by
  have:=(zdE _ _).1 hl;unfold wl at this ⊢;rw [a,List.map_drop] at this;exact jL this
 have h4:=(zdE _ _).2 h3;rw [<- h2,fQ,dI] at h4;exact h4.2
theorem zil {col:ByteArray}(hx:inB x L=jV)(h4:x.size<=4000)(h:zco L f rows cols x=fV col):inB col L=jV/\col.size<=4000:=by
 unfold zco at h
 split at h
 ·cases h
 ·obtain⟨k,-,rfl⟩:=Option.map_eq_some_iff.1 h;exact⟨zhO hx _,by rw [ByteArray.size_extract];omega⟩
theorem learn_same (hI:zbG L f rows cols)(hx:inB x L=jV)(h4:x.size<=4000) :
  zbd L f rows cols x=match zco L f rows cols x with
   |none=>fW
   |some col=>if (!zcT cols col&&decide (cols.length≠20))=jV then (zas L f (cols++[col]) (12 - rows.length) rows).map fun r=>(r,cols++[col]) else fW:=by
 unfold zbd;rw [zjm hI hx h4];cases h:zco L f rows cols x with
 |none=>rfl
 |some col =>
  obtain⟨h1,h2⟩:=zil hx h4 h;dsimp only;unfold zfS;rw [h1,decide_eq_true h2];rfl
end
section
variable {J:zbo} {B b0 L base nr cr nc cc kn:Nat} {S S':Nat->Prop} {W W':j2} {R C:Option Addr} {rows cols:List ByteArray} {f:ByteArray->Bool} {rc:j6}
theorem tb_cell {bT q tc:Nat} {TA:Option Addr} {g:Nat->Nat->Nat}(h:w.ownsRow bT 166 6 (fF TA n tc) n (tbC n g))(hq:q<n)(hl:l<6):∃ gT,TA=fV ⟨gT,0,fW⟩/\w.cell? ⟨gT,q*6+l,fW⟩=fV (.int iX (g q l:Nat)):=by
 obtain⟨gT,rfl,-,-⟩:=zN h oM;exact⟨gT,rfl,by rw [h.cellAt _ oM,tbC_get hq hl]⟩
theorem st_step (hl:(wl x)[k]?=fV l):stT L f rows cols x (k+1)=aGo (zcV L f rows cols) (stT L f rows cols x k) l:=by
 unfold stT;rw [dO,hl,eH,zaO]
theorem or_splitWord (hO:zhy b0 L f J kn rc)(hj:J B W S)(hB:B+6000<10000000)(hT:zhi W S base R nr cr C nc cc rows cols)(hI:zbG L f rows cols)(hcl:zaH L f rows cols=fW)(hb0:b0<=W.heap.size)(hL:L<64)(hx:inB x L=jV)(hxs:x.size<=4000) :
  j8 j5 128 #[orcV L kn rc,j4 #[fF R nr cr,fF C nc cc],x] W (RetO J (.tuple #[kC ((zco L f rows cols x).getD ⟨#[]⟩),j9 (zco L f rows cols x).isSome]) (B+6000) S W):=by
 have HO:=za hO;have HI:=za hI;have hv:=za (zct hI hcl hL);have hx1:Ext W ((W.alloc (.cells #[(L:Int),.func (.func kn) #[rc] #[]] 83)).alloc (.cells #[fF R nr cr,fF C nc cc] 90)):=((cY _).alloc _).alloc _;obtain⟨b3,b4⟩:=zJ (cY ((W.alloc (.cells #[(L:Int),.func (.func kn) #[rc] #[]] 83)).alloc (.cells #[fF R nr cr,fF C nc cc] 90)));have ad:=za (fun (q:Nat) (hq:W.heap.size<=q)=>zbo.fresh hO.ok hj hq);have b7:=hO.ok.keep hj hx1 (fun _ _ h=>h.elim);have bo:=za (hT.ext hx1);have bq:=za hT.lens;have cd:W.heap.size<((W.alloc (.cells #[(L:Int),.func (.func kn) #[rc] #[]] 83)).alloc (.cells #[fF R nr cr,fF C nc cc] 90)).heap.size/\W.heap.size+1<((W.alloc (.cells #[(L:Int),.func (.func kn) #[rc] #[]] 83)).alloc (.cells #[fF R nr cr,fF C nc cc] 90)).heap.size:=by simp;omega
 have Hx:=za hx;have Hb:=za (fun k hk=>zaV (zbp hx) (k:=k) hk);have ay:=za (fun (X:j2) (hX:Ext W X)=>zgP hO (hO.ok.keep hj hX (fun _ _ h=>h.elim)) oM (hT.ext hX) hI hcl (Nat.le_trans hb0 hX.size) hL);have bW:=hO.in_;have a4:(zcV L f rows cols).next.length=rows.length:=by simp [zcV]
 have au:stT L f rows cols x 0=0:=by simp [stT,zar]
 have E:=za a4;have bB:=za au;have bs:=za hI.r12;have br:=za hI.r1;clear hO hI hT hcl hx hj a4 au;obtain⟨a,ha⟩:∃ a,Hid (zcV L f rows cols=a):=⟨_,za rfl⟩;have am:=za (show a.al=(L:Int) by rw [<- ha.out];rfl);have aH:=za (show zco L f rows cols x=if zaw a (zar a 0 (wl x))=f x then fW else ((eU x.size).find? fun k=>zgL L f rows cols x (k+1) != f x).map fun k=>x.extract (k+1) x.size by rw [<- ha.out];rfl);have a9:=za (fun (k l:Nat) (hl:(wl x)[k]?=fV l)=>st_step (L:=L) (f:=f) (rows:=rows) (cols:=cols) hl);rw [ha.out] at ay hv E a9
 go_enter Tryz.func128,Tryz.ntmps128
 go_upto_region 1 with fail
 generalize (W.alloc _).alloc _=w1 at *;have k3:=b3.cell;have k4:=b4.cell;go_upto_region 2 with (go_at_call 51;refine (ay.out _ hx1).mono ?_;rintro e w2 ⟨S2,A,A',n,c,n',c',rfl,aP,ag⟩;rw [am.out])
 obtain⟨w3,U0⟩:∃ x,Hid (w2.alloc (.cells #[(L:Int),fF A n c,fF A' n' c'] 27)=x):=⟨_,za rfl⟩;have ae:=dZ U0.out;have hx8:Ext w2 w3:=((cY _).alloc _).trans (eX U0.out);obtain⟨G,aT⟩:∃ G,Hid (G=w2.heap.size):=⟨_,za rfl⟩;rw [<- aT.out] at ae ⊢;have bM:=ag.size;have ap:=za (fun (q:Nat) (hq:w2.heap.size<=q)=>zbo.fresh HO.out.ok ag.j hq);have bm:=ap.out G (oH aT.out);have B3:=za b3;have B4:=za b4;clear k3 k4 b3 b4;rw [U0.out] at *;have k8:=ae.cell;have av:=aP.ext hx8;have aS:=za (zT.reads av.own_);go_upto_region 3 with (go_at_call 119;rw [<- am.out];refine (zci aS.out hv.out).mono ?_;rintro e w4 ⟨TA,tc,rfl,⟨bT,b5,aF⟩,hx4⟩)
 have bb:=hx8.trans hx4;have a1:=za (ag.ext HO.out.ok bb);have aQ:=za (av.ext hx4);have an:=za (ae.ext hx4);have aw:=za (show zgv w4 S2 bT 166 6 (fF TA a.next.length tc) a.next.length (tbC a.next.length (aGo a)) from ⟨aF,fun b hb=>ap.out b (by have:=(aF.lt b hb).1;have:=hx8.size;omega)⟩);have b9:a.next.length<=12:=by rw [E.out];exact bs.out
 clear ae hx8 aP av aS aF hx4 k8 ag ay;go_wp2_with fail
 go_loopw [10,11,21] (fun qv _ iv wr=>∃ k:Nat,iv=.int iX k/\qv=.int iX (zar a 0 ((wl x).take k))/\k<=x.size/\Ext w4 wr) (fun _ _ iv _=>x.size - (intOf iv).toNat)
 case atStart=>exact⟨0,rfl,by simp [zar],dH _,cY _⟩
 case round =>
  obtain⟨k,rfl,rfl,hk,s⟩:=hrel;have o:∀ k,zar a 0 ((wl x).take k)<a.next.length:=fun k=>zem hv.out (fun l hl=>zkq (zbp Hx.out) l (List.mem_of_mem_take hl)) (by rw [E.out];exact br.out)
  by_cases hlt:k<x.size
  ·have a3:(k:Int)<(x.size:Int):=oM;have bp:=Hb.out k hlt;have O:=za (zey hlt);have T:=za (show ltr (x[k].toNat)=((x[k].toNat - 97:Nat):Int) by unfold ltr;rw [if_neg oM];omega);obtain⟨l,Q⟩:∃ l,Hid (l=x[k].toNat - 97):=⟨x[k].toNat - 97,za rfl⟩;rw [<- Q.out] at O T;have aD:l<6:=oH Q.out;have V:=za (show zar a 0 ((wl x).take (k+1))=aGo a (zar a 0 ((wl x).take k)) l by rw [dO,O.out,eH,zaO]);have i:=o k;obtain⟨q,y⟩:∃ q,Hid (zar a 0 ((wl x).take k)=q):=⟨_,za rfl⟩;rw [y.out] at V i ⊢;obtain⟨gT,rfl,g⟩:=tb_cell (aw.out.ext s).own i aD;rw [<- V.out] at g;have CT:∀ X,Ext wr X->X.cell? ⟨gT,q*6+l,fW⟩=fV (.int iX (zar a 0 ((wl x).take (k+1)):Nat)):=fun X hX=>hX.aa g;have aG:(q:Int)<(a.next.length:Int):=oM;have a2:(l:Int)<6:=oM;have hww:=cY wr;clear g o;obtain⟨q',U⟩:∃ q',Hid (zar a 0 ((wl x).take (k+1))=q'):=⟨_,za rfl⟩;rw [U.out] at CT;go_upto_region 7 with fail
   refine uR (fun X=>Ext wr X) [] (zx.of [0,1,2,3,5,4,6,7,8]) ?_;refine uQ ?_;refine ze fun K hK=>?_;go_simp;refine (zbf x k hlt _).mono ?_;rw [T.out];rintro e w6 ⟨rfl,rfl⟩;refine hK.out _ _ hww.drew ?_;refine pT ?_;refine uQ ?_;refine zg ?_;go_wp2_with fail
   go_roundw
   case rel=>exact⟨k+1,gM,by rw [U.out],oM,s.trans hww.drew⟩
   case measure=>exact uM
  ·obtain rfl:k=x.size:=oM;have bt:=za (show zar a 0 ((wl x).take x.size)=zar a 0 (wl x) by rw [dK (by rw [zft];exact dE _)]);have i:=o x.size;rw [bt.out] at i ⊢;have ak:=za o;obtain⟨q,y⟩:∃ q,Hid (zar a 0 (wl x)=q):=⟨_,za rfl⟩;rw [y.out] at i ⊢;have ah:=za (a1.out.ext HO.out.ok s);have F:=za (HO.out.ask _ wr S2 x ah.out.j oM Hx.out oM);obtain⟨b1,d⟩:∃ b1,Hid (f x=b1):=⟨_,za rfl⟩;rw [d.out] at F;have k3:=(ah.out.blk B3.out (ad.out _ (dE _))).1.cell;have aR:=za (aQ.out.ext s);have aW:=za (aw.out.ext s);have aY:=za (an.out.ext s);clear o a1 aQ aw an s;go_upto_region 10 with fail
   refine F.out.mono ?_;rintro e w5 ⟨S5,rfl,H⟩;have u:=za (ah.out.trans H);have ab:=aR.out.kp H;have aU:=za (aW.out.kp H);have aX:=(H.blk aY.out bm).1;have k8:=aX.cell;obtain rfl:=own_num ab.acc;have t:=za (zk hv.out).2.2.1;obtain⟨gA,rfl,-,-⟩:=zN ab.acc (oH t.out);have cA:w5.cell? ⟨gA,q,fW⟩=fV (.bool (zaw a q)):=by
    rw [ab.acc.cellAt q (oH t.out)];unfold zaw zaa;rw [List.getElem?_map,dF,dC (oH t.out)];rfl
   have bK:(q:Int)<(a.acc.length:Int):=oH t.out;obtain⟨ba,af⟩:∃ ba,Hid (zaw a q=ba):=⟨_,za rfl⟩;rw [af.out] at cA;clear ab aX aR aW aY H F k3 ah;have a0:=(u.out.blk B3.out (ad.out _ (dE _)))
   by_cases hbe:ba=b1
   ·have m:=za (show RetO J (.tuple #[kC ((zco L f rows cols x).getD ⟨#[]⟩),j9 (zco L f rows cols x).isSome]) (B+6000) S W (j7 (.tuple #[kC ⟨#[]⟩,j9 j3])) w5 from
     ⟨S5,by rw [aH.out,y.out,af.out,d.out,if_pos hbe];rfl,(u.out.more HO.out.ok oM).back hx1⟩)
    have v:(ba==b1)=jV:=by rw [hbe];simp
    go_wp2_with fail
    go_ret2;exact m.out
   ·have v:(ba==b1)=j3:=by simpa using hbe
    have aL:=za hbe;clear hbe;go_upto_region 12 with fail
    clear k8 cA v a0;go_wp2_with fail
    go_loopw [10,13,46] (fun qv _ iv wr=>∃ (k:Nat) (S6:Nat->Prop),iv=.int iX k/\qv=.int iX (zar a 0 ((wl x).take k))/\k<=x.size/\Hid (Kp J (B+1693+k) S w1 wr S6)/\Hid (zgv wr S6 bT 166 6 (fF TA a.next.length tc) a.next.length (tbC a.next.length (aGo a)))/\Hid (∀ j,j<k->zgL L f rows cols x (j+1)=b1)) (fun _ _ iv _=>x.size - (intOf iv).toNat)
    case atStart=>exact⟨0,S5,rfl,by simp [zar],dH _,u,aU,za (fun j h=>oM)⟩
    case round =>
     clear u aU;obtain⟨k,S6,rfl,rfl,hk,aC,ax,aE⟩:=hrel
     by_cases hlt:k<x.size
     ·have a3:(k:Int)<(x.size:Int):=oM;have bp:=Hb.out k hlt;have O:=za (zey hlt);have T:=za (show ltr (x[k].toNat)=((x[k].toNat - 97:Nat):Int) by unfold ltr;rw [if_neg oM];omega);obtain⟨l,Q⟩:∃ l,Hid (l=x[k].toNat - 97):=⟨x[k].toNat - 97,za rfl⟩;rw [<- Q.out] at O T;have aD:l<6:=oH Q.out;have V:=za (show zar a 0 ((wl x).take (k+1))=aGo a (zar a 0 ((wl x).take k)) l by rw [dO,O.out,eH,zaO]);have Y:=ak.out k;have Z:=ak.out (k+1);have a8:=za (show zgL L f rows cols x (k+1)=f (rows.getD (zar a 0 ((wl x).take (k+1))) ⟨#[]⟩++x.extract (k+1) x.size) by rw [<- ha.out];rfl);obtain⟨q0,a6⟩:∃ q0,Hid (zar a 0 ((wl x).take k)=q0):=⟨_,za rfl⟩;rw [a6.out] at V Y ⊢;obtain⟨gT,rfl,g⟩:=tb_cell ax.out.own Y aD;rw [<- V.out] at g;obtain⟨q',U⟩:∃ q',Hid (zar a 0 ((wl x).take (k+1))=q'):=⟨_,za rfl⟩;rw [U.out] at g Z a8;have CT:∀ X,Ext wr X->X.cell? ⟨gT,q0*6+l,fW⟩=fV (.int iX (q':Nat)):=fun X hX=>hX.aa g;have aG:(q0:Int)<(a.next.length:Int):=oM;have a2:(l:Int)<6:=oM;have hww:=cY wr;clear g;go_upto_region 16 with fail
      refine uR (fun X=>Ext wr X) [] (zx.of [0,1,2,3,5,4,6,7,8]) ?_;refine uQ ?_;refine ze fun K hK=>?_;go_simp;refine (zbf x k hlt _).mono ?_;rw [T.out];rintro e w6 ⟨rfl,rfl⟩;refine hK.out _ _ hww.drew ?_;refine pT ?_;refine uQ ?_;refine zg ?_;have I:=za (aC.out.ext HO.out.ok hww.drew);have aV:=za (ax.out.ext hww.drew);clear CT aC ax hww;generalize wr.drew=wd at *;obtain⟨r,hr⟩:∃ r,rows[q']?=fV r:=⟨_,dC (by rw [<- E.out];exact Z)⟩;have a7:=za (List.mem_of_getElem? hr);have cb:r.size<=12:=(HI.out.rin a7.out).2;obtain⟨gR,rfl,aZ⟩:=zhY (bo.out.kp I.out).r.own hr;obtain⟨y2,z⟩:∃ y2,Hid (x.extract (k+1) x.size=y2):=⟨_,za rfl⟩;have bP:y2.size<=4000:=by rw [<- z.out,ByteArray.size_extract];omega
      obtain⟨z2,ai⟩:∃ z2,Hid (r++y2=z2):=⟨_,za rfl⟩;have bc:=za (show inB z2 L=jV by
       rw [<- ai.out,<- z.out];exact zja (HI.out.rin a7.out).1 (zhO Hx.out (k+1)) (by rw [z.out];omega))
      have bu:z2.size<=9000:=by rw [<- ai.out,ByteArray.size_append];omega
      have ar:=za (show zgL L f rows cols x (k+1)=f z2 by rw [a8.out,dF,hr,eM,z.out,ai.out]);obtain⟨bz,az⟩:∃ bz,Hid (f z2=bz):=⟨_,za rfl⟩;have bL:¬ 9223372036854775807<r.size+y2.size:=oM;have ca:(q':Int)<(nr:Int):=by rw [<- bq.out.1,<- E.out];omega
      have bN:=IntWalk.i64_in ((k:Int)+1) oM;have b8:(k:Int)+1<=(x.size:Int):=oM;have bJ:(0:Int)<=(k:Int)+1:=oM;have bO:=z.out;have bQ:=ai.out;have K3:∀ X,Ext wd X->∀ j,X.cell? ⟨W.heap.size,j,fW⟩=#[Value.int iX (L:Int),.func (.func kn) #[rc] #[]][j]?:=fun X hX=>((I.out.blk B3.out (ad.out _ (dE _))).1.ext hX).cell;have K4:∀ X,Ext wd X->∀ j,X.cell? ⟨W.heap.size+1,j,fW⟩=#[fF (fV gR) nr cr,fF C nc cc][j]?:=fun X hX=>((I.out.blk B4.out (ad.out _ oM)).1.ext hX).cell;have CR:∀ X,Ext wd X->X.cell? ⟨gR,q',fW⟩=fV (.string r):=fun X hX=>hX.aa aZ;have hww:=cY wd;clear aZ hr;go_upto_region 17 with fail
      refine uR (fun X=>Ext wd X) [12] (zx.of [0,1,2,3,4,5,6,7,8,9,10,11,13,12,14]) ?_;refine uQ ?_;have M:=I.out.ext HO.out.ok hww.drew;have p:=za (HO.out.ask _ wd.drew S6 z2 M.j oM bc.out bu);rw [az.out] at p;refine zb fun K hK=>?_;go_simp;refine p.out.mono ?_;rintro e w7 ⟨S7,rfl,aB⟩;refine hK.out _ _ ?_;refine pT ?_;refine uQ ?_;refine zg ?_;have aq:=za (M.trans aB);have bn:=za ((aV.out.ext hww.drew).kp aB);clear K3 K4 CR p M aB I aV
      by_cases hbe:bz=b1
      ·have v:(bz==b1)=jV:=by rw [hbe];simp
       have a5:=za (show ∀ j,j<k+1->zgL L f rows cols x (j+1)=b1 from fun j hj=>by
        rcases Nat.lt_or_eq_of_le (Nat.le_of_lt_succ hj) with h1|rfl
        ·exact aE.out j h1
        ·rw [ar.out,az.out,hbe])
       clear v;have D:=za hbe;clear hbe;go_wp2_with fail
       ·rename_i hh;exfalso;rw [D.out] at hh;simp at hh
       ·go_roundw
        case rel=>exact⟨k+1,S7,gM,by rw [U.out],oM,za (by have:=aq.out;rwa [show B+1693+k+1=B+1693+(k+1) by omega] at this),bn,a5⟩
        case measure=>exact uM
      ·have ao:(bz != b1)=jV:=by simpa using hbe
       have v:(bz==b1)=j3:=by simpa using hbe
       have m:=za (show RetO J (.tuple #[kC ((zco L f rows cols x).getD ⟨#[]⟩),j9 (zco L f rows cols x).isSome]) (B+6000) S W (j7 (.tuple #[y2,j9 jV])) w7 from by
        have aA:(eU x.size).find? (fun k=>zgL L f rows cols x (k+1) != f x)=fV k:=zeR hlt (fun j hj=>by rw [aE.out j hj,d.out];simp) (by rw [ar.out,az.out,d.out];exact ao);exact⟨S7,by rw [aH.out,y.out,af.out,d.out,if_neg aL.out,<- d.out,aA,<- z.out];rfl,(aq.out.more HO.out.ok oM).back hx1⟩)
       have D:=za hbe;clear hbe ao v;go_wp2_with fail
       ·go_ret2;exact m.out
       ·rename_i hh;exfalso;exact D.out (by simpa using hh)
     ·have b6:¬ (k:Int)<(x.size:Int):=oM;have m:=za (show RetO J (.tuple #[kC ((zco L f rows cols x).getD ⟨#[]⟩),j9 (zco L f rows cols x).isSome]) (B+6000) S W (j7 (.tuple #[kC ⟨#[]⟩,j9 j3])) wr from by
       have aA:(eU x.size).find? (fun k=>zgL L f rows cols x (k+1) != f x)=fW:=by
        rw [List.find?_eq_none];intro j hj;rw [List.mem_range] at hj;rw [aE.out j oM,d.out];simp
       exact⟨S6,by rw [aH.out,y.out,af.out,d.out,if_neg aL.out,<- d.out,aA];rfl,(aC.out.more HO.out.ok oM).back hx1⟩)
      go_wp2_with fail
      go_ret2;exact m.out
end
section
variable {J:zbo} {B b0 L base nr cr nc cc kn:Nat} {S S':Nat->Prop} {W W':j2} {R C:Option Addr} {rows cols:List ByteArray} {f:ByteArray->Bool} {rc:j6}
noncomputable def addT (rows cols:List ByteArray) (x:ByteArray):Option (List ByteArray × List ByteArray):=if (!zcT cols x&&decide (cols.length≠20))=jV then fV (rows,cols++[x]) else fW
theorem add_fin {w1 W5:j2} {b2 b8:Nat} {v2 v8:j6} (hfr:∀ q,W.heap.size<=q->¬ S q)(hx0:Ext W w1)(hx:Ext w1 W5)(hb:Blk W5 Z 90 #[(),()])(hZ:W.heap.size<=Z)(h2:W5.ownsRow b2 9 1 v2 rows.length (zO rows))(h8:W5.ownsRow b8 9 1 v8 (cols.length+1) (zO cols++[.string x]))(hb2:W.heap.size<=b2)(hb8:W.heap.size<=b8) :
  Ext W ((W5.setCell Z v2).setCell ⟨Z,1,fW⟩ v8)/\Blk ((W5.setCell Z v2).setCell ⟨Z,1,fW⟩ v8) Z 90 #[v2,v8] /\
  ∃ R' cr' C' cc',v2=fF R' rows.length cr'/\v8=.slice C' (cols++[x]).length cc'/\zhi ((W5.setCell Z v2).setCell ⟨Z,1,fW⟩ v8) S W.heap.size R' rows.length cr' C' (cols++[x]).length cc' rows (cols++[x]):=by
 have d:=(dG W5 Z 0 v2).trans (dG _ Z 1 v8);have a:=zdx h2 hb2;have c:=zdx h8 hb8;have f:(cols++[x]).length=cols.length+1:=sM;obtain⟨R',cr',rfl⟩:=zh h2;obtain⟨C',cc',rfl⟩:=zh h8;refine⟨(hx0.trans hx).frm d (fun q hq e=>by have g:q=Z:=e;omega),by simpa using (hb.ae 0 (fF R' rows.length cr')).ae 1 (fF C' (cols.length+1) cc'),R',cr',C',cc',rfl,by rw [f],⟨⟨zf a d (fun b hb' e=>zM a hb dM hb' e),fun b hb'=>hfr b (a.lt b hb').1⟩,⟨?_,fun b hb'=>?_⟩⟩⟩
 ·rw [f,zjn];exact zf c d (fun b hb' e=>zM c hb dM hb' e)
 ·rw [f] at hb';exact hfr b (c.lt b hb').1
theorem yX14b2 {P:Prop}(h:P:=by
 have ho28:=zf ho2 hf8 (fun b hb e=>hdis b hb e);have hb48:=hb4.frm hf8 (fun e=>zM ho5 hb4 dM e rfl);obtain⟨C8,c8,rfl⟩:=zh ho8;have k8:=hb48.cell;have f8:=hb48.frozen;refine uQ ?_;refine zb fun K hK=>?_;go_simp;refine hK.out _ _ ?_;refine pT ?_;refine uQ ?_;refine zg ?_;have zku:=add_fin (x:=x) hwS.out hx1 hx8 hb48 oM ho28 ho8 oM oM;obtain⟨h1,h2,R9,cr9,C9,cc9,h3,h4,h5⟩:=zku;have cf:=h2.cell;have HT9:=za h5;have Hk9:=za (hkW.out.ext HJ.out h1);have H3:=za h3;have H4:=za h4;clear h3 h4 h2 h5 k8 f8 hb48 ho28 ho8 hg8 hat8;generalize (w8.setCell ⟨W.heap.size+1,0,none⟩ (.slice R6 rows.length cr6)).setCell ⟨W.heap.size+1,1,none⟩ (.slice C8 (cols.length+1) c8)=w9 at *;go_wp2_with fail
 have hv9:Value.tuple #[.agg #[.slice R6 rows.length cr6,.slice C8 (cols.length+1) c8],.bool true]=.tuple #[.agg #[.slice R9 rows.length cr9,.slice C9 (cols++[x]).length cc9],.bool true]:=by rw [H3.out,H4.out]
 exact bodyPost_ret (v:=.tuple #[.agg #[.slice R6 rows.length cr6,.slice C8 (cols.length+1) c8],.bool true]) (by simp [results,Tryz.results129,go_sem,cf]) rfl ⟨S,Hk9.out,.inr ⟨rows,cols++[x],R9,C9,cr9,cc9,had.out,by rw [hv9],HT9.out⟩⟩
 ):P:=h
theorem yX14a2 {P:Prop}(h:P:=by
 refine hK.out _ _ hxw5 ?_;refine pT ?_;refine uQ ?_;have hb4:=b4.ext hxw5;refine zb fun K hK=>?_;refine zy w5 _ _ 88 rfl _ 9 _ 1 16 Tryz.underlying88 zq rfl dM _ cols.length (zO cols) rfl ho5 _ _ _ 1 1 #[Value.string x].toList rfl (Reads.af ho7) (by simp [Value.oneCell']) lM oM (by have:=hy5.size;have:=hy7.size;omega) ?_;intro v8 w8 ho8 hg8 hat8;refine hK.out _ _ ?_;refine pT ?_;have hx8:Ext w1 w8:=hxw5.grown hg8 (fun q hq=>by have:=(ho5.lt q hq).1;omega);have hf8:Frm (fun q=>(Value.slice C6 cols.length cc6).ownBlock=some q) w5 w8:=Frm.ab hg8;exact yX14b2
 ):P:=h
theorem ziD (hJ:zbo.Ok b0 J)(hj:J B W S)(hT:zhi W S base R nr cr C nc cc rows cols)(hI:zbG L f rows cols) :
  j8 j5 129 #[j4 #[fF R nr cr,fF C nc cc],x] W (RetTO J (addT rows cols x) B S W):=by
 obtain⟨rfl,rfl⟩:=hT.lens;have D:=hI.r12;have z:=hI.c20;have HJ:=za hJ;have hwS:=za (fun (q:Nat) (hq:W.heap.size<=q)=>zbo.fresh hJ hj hq);obtain⟨w1,U0⟩:∃ x,Hid ((W.alloc (.cells #[fF R rows.length cr,fF C cols.length cc] 90)).alloc (.cells #[(),()] 90)=x):=⟨_,za rfl⟩;have hx1:Ext W w1:=(((cY _).alloc _).alloc _).trans (eX U0.out);obtain⟨s,b4⟩:=zJ (eX U0.out);have k:=za (hT.ext hx1);have H:=za (hJ.keep hj hx1 (fun _ _ h=>h.elim));have hkW:=za (Kp.refl (J:=J) hj);clear hT hI hJ hj
 go_enter Tryz.func129,Tryz.ntmps129
 go_upto_region 1 with fail
 rw [U0.out] at *;have T:=s.cell;have I:=b4.cell;have F:=b4.frozen;have g:=za (contains_str (x:=x) (c:=cc) (eF k.out.c.own));have d:∀ (_:addT rows cols x=fW),Hid (Kp J B S W ((w1.setCell ⟨W.heap.size+1,0,fW⟩ ()).setCell ⟨W.heap.size+1,1,fW⟩ ()) S/\∀ i,((w1.setCell ⟨W.heap.size+1,0,fW⟩ ()).setCell ⟨W.heap.size+1,1,fW⟩ ()).cell? ⟨W.heap.size+1,i,fW⟩=#[fF fW 0 0,fF fW 0 0][i]?):=fun _=>by
  have G:=(dG w1 (W.heap.size+1) 0 (fF fW 0 0)).trans (dG _ (W.heap.size+1) 1 (fF fW 0 0));have y:Ext W ((w1.setCell ⟨W.heap.size+1,0,fW⟩ ()).setCell ⟨W.heap.size+1,1,fW⟩ ()):=hx1.frm G (fun q hq e=>by have Q:q=W.heap.size+1:=e;omega);refine⟨hkW.out.ext HJ.out y,fun i=>?_⟩;have:=((b4.ae 0 (fF fW 0 0)).ae 1 (fF fW 0 0)).cell i;simpa using this
 by_cases h20:cols.length=20
 ·have had:=za (show addT rows cols x=fW by unfold addT;rw [if_neg];rw [h20];simp);have n:=d had.out;have m:((cols.length:Int)==20)=jV:=by rw [h20];rfl
  clear h20 d s b4;go_wp2_with fail
  have cf:=n.out.2;generalize (w1.setCell ⟨W.heap.size+1,0,fW⟩ ()).setCell ⟨W.heap.size+1,1,fW⟩ ()=w9 at *;exact bodyPost_ret (v:=.tuple #[j4 #[(),()],j9 j3]) (by simp [results,Tryz.results129,go_sem,cf]) rfl ⟨S,n.out.1,.inl ⟨had.out,rfl⟩⟩
 ·have m:((cols.length:Int)==20)=j3:=by simp;omega
  cases hm:zcT cols x with
  |true =>
   have had:=za (show addT rows cols x=fW by unfold addT;rw [if_neg];rw [hm];simp);have n:=d had.out;rw [hm] at g;clear h20 d s b4 hm;go_wp2_with (go_at_call 210;refine g.out.mono ?_;rintro e w2 ⟨rfl,rfl⟩)
   have cf:=n.out.2;generalize (w1.setCell ⟨W.heap.size+1,0,fW⟩ ()).setCell ⟨W.heap.size+1,1,fW⟩ ()=w9 at *;exact bodyPost_ret (v:=.tuple #[j4 #[(),()],j9 j3]) (by simp [results,Tryz.results129,go_sem,cf]) rfl ⟨S,n.out.1,.inl ⟨had.out,rfl⟩⟩
  |false =>
   have had:=za (show addT rows cols x=fV (rows,cols++[x]) by unfold addT;rw [if_pos];rw [hm];simp;exact h20);rw [hm] at g;clear d hm I F;go_upto_region 3 with (go_at_call 210;refine g.out.mono ?_;rintro e w2 ⟨rfl,rfl⟩)
   have O:∀ X,Ext w1 X->∀ q,X.cell? ⟨W.heap.size,q,fW⟩=#[fF R rows.length cr,fF C cols.length cc][q]?:=fun X hX=>(s.ext hX).cell;have hww:=cY w1;have E:=hx1.size;refine uR (fun X=>Ext w1 X) [5,8,10] (zx.app [0,1,3,4,6] (zx.two 2 (zx.two 5 (zx.of [7,8,9,10,11]) 7 (zx.of [5,8,9,10,11])) 7 (zx.of [2,5,8,9,10,11]))) ?_;refine uQ ?_;have j:=hww.drew;generalize w1.drew=wd at *;refine zm (fun K hK=>?_) (fun K hK=>?_)
   ·go_simp;refine (zbH (eF (zi k.out.r.own j)) oM).mono ?_;rintro e w2 ⟨M,rfl,ho2,l⟩;have b:=j.trans l;obtain⟨R6,cr6,rfl⟩:=zh ho2;have u:=j.size;refine hK.out _ _ b ?_;refine pT ?_;refine uQ ?_;refine zm (fun K hK=>?_) (fun K hK=>?_)
    ·go_simp;refine (zbH (eF (zi k.out.c.own b)) oM).mono ?_;rintro e w5 ⟨p,rfl,ho5,hy5⟩;have hdis:∀ q,(fF R6 rows.length cr6).ownBlock=fV q->p.ownBlock≠fV q:=fun q h1 h2=>by have:=(ho2.lt q h1).2;have:=(ho5.lt q h2).1;omega
     have hxw5:=b.trans hy5;obtain⟨C6,cc6,rfl⟩:=zh ho5;have o:=b.size;replace ho2:=zi ho2 hy5;refine hK.out _ _ hxw5 ?_;refine pT ?_;refine uQ ?_;refine ze fun K hK=>?_;go_simp;have ho7:=World.ownsRow_lit (base:=w5.heap.size) (e:=9) (size:=1) w5 #[x] 1 (dE _) dM rfl;have hy7:Ext w5 (w5.alloc (.cells #[x] 9)):=(cY _).alloc _;have a:=hxw5.trans hy7;replace ho2:=zi ho2 hy7;replace ho5:=zi ho5 hy7;refine hK.out _ _ a ?_;generalize w5.alloc _=t at *;refine pT ?_;refine uQ ?_;have hb4:=b4.ext a;refine zb fun K hK=>?_;refine zy t _ _ 88 rfl _ 9 _ 1 16 Tryz.underlying88 zq rfl dM _ cols.length (zO cols) rfl ho5 _ _ _ 1 1 #[kC x].toList rfl (eF ho7) (by simp [Value.oneCell']) lM oM (by have:=hy5.size;have:=hy7.size;omega) ?_;intro v8 w8 ho8 hg8 hat8;refine hK.out _ _ ?_;refine pT ?_;have hx8:Ext w1 w8:=a.grown hg8 (fun q hq=>by have:=(ho5.lt q hq).1;omega);have hf8:Frm (fun q=>(fF C6 cols.length cc6).ownBlock=fV q) t w8:=Frm.ab hg8;exact yX14b2
    ·go_simp;have ho7:=World.ownsRow_lit (base:=w2.heap.size) (e:=9) (size:=1) w2 #[x] 1 (dE _) dM rfl;have hy7:Ext w2 (w2.alloc (.cells #[x] 9)):=(cY _).alloc _;have a:=b.trans hy7;replace ho2:=zi ho2 hy7;refine hK.out _ _ a ?_;generalize w2.alloc _=t at *;refine pT ?_;refine uQ ?_;refine ze fun K hK=>?_;go_simp;refine (zbH (eF (zi k.out.c.own a)) oM).mono ?_;rintro e w5 ⟨p,rfl,ho5,hy5⟩;have hdis:∀ q,(fF R6 rows.length cr6).ownBlock=fV q->p.ownBlock≠fV q:=fun q h1 h2=>by have:=(ho2.lt q h1).2;have:=(ho5.lt q h2).1;omega
     have hxw5:=a.trans hy5;obtain⟨C6,cc6,rfl⟩:=zh ho5;have o:=a.size;replace ho2:=zi ho2 hy5;replace ho7:=zi ho7 hy5;exact yX14a2
   ·go_simp;have ho7:=World.ownsRow_lit (base:=wd.heap.size) (e:=9) (size:=1) wd #[x] 1 (dE _) dM rfl;have hy7:Ext wd (wd.alloc (.cells #[x] 9)):=(cY _).alloc _;have a:=j.trans hy7;refine hK.out _ _ a ?_;generalize wd.alloc _=t at *;refine pT ?_;refine uQ ?_;refine ze fun K hK=>?_;go_simp;refine (zbH (eF (zi k.out.r.own a)) oM).mono ?_;rintro e w2 ⟨M,rfl,ho2,l⟩;have b:=a.trans l;obtain⟨R6,cr6,rfl⟩:=zh ho2;have u:=a.size;replace ho7:=zi ho7 l;refine hK.out _ _ b ?_;refine pT ?_;refine uQ ?_;refine ze fun K hK=>?_;go_simp;refine (zbH (eF (zi k.out.c.own b)) oM).mono ?_;rintro e w5 ⟨p,rfl,ho5,hy5⟩;have hdis:∀ q,(fF R6 rows.length cr6).ownBlock=fV q->p.ownBlock≠fV q:=fun q h1 h2=>by have:=(ho2.lt q h1).2;have:=(ho5.lt q h2).1;omega
    have hxw5:=b.trans hy5;obtain⟨C6,cc6,rfl⟩:=zh ho5;have o:=b.size;replace ho7:=zi ho7 hy5;replace ho2:=zi ho2 hy5;exact yX14a2
end
section
variable {J:zbo} {B b0 L base nr cr nc cc kn:Nat} {S S':Nat->Prop} {W W':j2} {R C:Option Addr} {rows cols:List ByteArray} {f:ByteArray->Bool} {rc:j6}
theorem zhp {w5:j2} {S5:Nat->Prop}  {u0 u1:j6}(hJ:zbo.Ok b0 J)(hk:Kp J B S W w5 S5)(hb:Blk w5 Z 90 #[u0,u1])(hZ:¬ S5 Z)(hWZ:W.heap.size<=Z)(hbZ:b0<=Z) :
  Blk ((w5.setCell Z ()).setCell ⟨Z,1,fW⟩ ()) Z 90 #[(),()]/\Kp J B S W ((w5.setCell Z ()).setCell ⟨Z,1,fW⟩ ()) S5:=by
 have b:=(dG w5 Z 0 (fF fW 0 0)).trans (dG _ Z 1 (fF fW 0 0));exact⟨by simpa using (hb.ae 0 (fF fW 0 0)).ae 1 (fF fW 0 0),hk.own hJ b (fun q _ e=>by have a:q=Z:=e;rw [a];exact⟨hWZ,hbZ,hZ⟩)⟩
theorem Blk.far2 {g:Nat} {t:TypeId} (h:Blk w g t cs)(hne:g≠Z) (u v:j6):Blk ((w.setCell Z u).setCell ⟨Z,1,fW⟩ v) g t cs:=(h.far (p:=⟨Z,0,fW⟩) hne u).far (p:=⟨Z,1,fW⟩) hne v
theorem zgQ (hO:zhy b0 L f J kn rc)(hj:J B W S)(hB:B+27840<10000000)(hT:zhi W S base R nr cr C nc cc rows cols)(hI:zbG L f rows cols)(hcl:zaH L f rows cols=fW)(hb0:b0<=W.heap.size)(hL:L<64)(hx:inB x L=jV)(hxs:x.size<=4000) :
  j8 j5 54 #[orcV L kn rc,j4 #[fF R nr cr,fF C nc cc],x] W (RetTO J (zbd L f rows cols x) (B+27840) S W):=by
 have s:=za hO;have HI:=za hI;have aa:=za (learn_same hI hx hxs);have V:=za (fun (col:ByteArray) (h:zco L f rows cols x=fV col)=>zil hx hxs h);obtain⟨w1,U0⟩:∃ x,Hid (((W.alloc (.cells #[(L:Int),.func (.func kn) #[rc] #[]] 83)).alloc (.cells #[fF R nr cr,fF C nc cc] 90)).alloc (.cells #[(),()] 90)=x):=⟨_,za rfl⟩;have hx1:Ext W w1:=((((cY _).alloc _).alloc _).alloc _).trans (eX U0.out);obtain⟨b2,b3,b4⟩:=zL (eX U0.out);have G:=za (fun (q:Nat) (hq:W.heap.size<=q)=>zbo.fresh hO.ok hj hq);have aA:=hO.ok.keep hj hx1 (fun _ _ h=>h.elim);have az:=za (hT.ext hx1);have o:=za (or_splitWord (x:=x) hO aA oM (hT.ext hx1) hI hcl (Nat.le_trans hb0 hx1.size) hL hx hxs);have aJ:W.heap.size+1+1<w1.heap.size:=by rw [<- U0.out];simp
 clear hO hI hT hj hx
 go_enter Tryz.func54,Tryz.ntmps54
 go_upto_region 1 with fail
 rw [U0.out] at *;have k2:=b2.cell;have k3:=b3.cell;cases hsp:zco L f rows cols x with
 |none =>
  have l:=za (show zbd L f rows cols x=fW by rw [aa.out,hsp]);rw [hsp] at o;clear hsp;go_upto_region 2 with (go_at_call 128;refine o.out.mono ?_;rintro e w2 ⟨S2,rfl,b⟩)
  have a:=b.blk b4 (G.out _ oM);have k4:=a.1.cell;have f4:=a.1.frozen;have zku:=zhp s.out.ok ((b.more s.out.ok (show B+6000<=B+27840 by omega)).back hx1) a.1 a.2 oM oM;have cf:=zku.1.cell;have Hk:=za zku.2;clear zku k2 k3 b2 b3 b4 b;go_wp2_with fail
  clear k4 f4 a;generalize (w2.setCell ⟨W.heap.size+1+1,0,fW⟩ ()).setCell ⟨W.heap.size+1+1,1,fW⟩ ()=w9 at *;exact bodyPost_ret (v:=.tuple #[j4 #[(),()],j9 j3]) (by simp [results,Tryz.results54,go_sem,cf]) rfl ⟨S2,Hk.out,.inl ⟨l.out,rfl⟩⟩
 |some col =>
  have E:=za hsp;rw [hsp] at o;clear hsp;go_upto_region 4 with (go_at_call 128;refine o.out.mono ?_;rintro e w2 ⟨S2,rfl,b⟩)
  have ao:=za ((b).back hx1);have ay:=za (az.out.kp b);have t:=b.blk b2 (G.out _ oM);have n:=b.blk b3 (G.out _ oM);have a:=b.blk b4 (G.out _ oM);have k3:=n.1.cell;have O:=za (ziD (x:=col) s.out.ok b.j ay.out HI.out);have aG:=b.size;clear k2 b2 b3 b4;go_upto_region 99 with fail
  refine O.out.mono ?_;rintro e w3 ⟨S3,p,k⟩;have m:=p.blk t.1 t.2;have c:=p.blk n.1 n.2;have g:=p.blk a.1 a.2;have T:=za (ao.out.trans p);have k3:=c.1.cell;have f3:=c.1.frozen;clear t n a O;rcases k with ⟨hn,rfl⟩|⟨rs,cs,R',C',Y,X,I,rfl,ak⟩
  ·have l:=za (show zbd L f rows cols x=fW by
    rw [aa.out,E.out];unfold addT at hn
    by_cases z:(!zcT cols col&&decide (cols.length≠20))=jV
    ·rw [if_pos z] at hn;cases hn
    ·show (if (!zcT cols col&&decide (cols.length≠20))=jV then _ else fW)=fW;rw [if_neg z])
   have h3:=zhp s.out.ok T.out c.1 c.2 oM oM;have i:=g.1.far2 (Z:=W.heap.size+1) oM (fF fW 0 0) (fF fW 0 0);have k4:=i.cell;have f4:=i.frozen;have zku:=zhp s.out.ok (h3.2.more s.out.ok (show B+6000<=B+27840 by omega)) i g.2 oM oM;have cf:=zku.1.cell;have Hk:=za zku.2;clear zku h3 hn p b;go_wp2_with fail
   clear k3 f3 k4 f4 i m c g;generalize (((w3.setCell ⟨W.heap.size+1,0,fW⟩ ()).setCell ⟨W.heap.size+1,1,fW⟩ ()).setCell ⟨W.heap.size+1+1,0,fW⟩ ()).setCell ⟨W.heap.size+1+1,1,fW⟩ ()=w9 at *;exact bodyPost_ret (v:=.tuple #[j4 #[(),()],j9 j3]) (by simp [results,Tryz.results54,go_sem,cf]) rfl ⟨S3,Hk.out,.inl ⟨l.out,rfl⟩⟩
  ·obtain⟨z,rfl,u⟩:(!zcT cols col&&decide (cols.length≠20))=jV/\rows=rs/\cols++[col]=cs:=by
    unfold addT at I
    by_cases z:(!zcT cols col&&decide (cols.length≠20))=jV
    ·rw [if_pos z] at I;have h1:=Option.some.inj I;exact⟨z,(Prod.mk.inj h1).1,(Prod.mk.inj h1).2⟩
    ·rw [if_neg z] at I;cases I
   have l:=za (show zbd L f rows cols x=(zas L f (cols++[col]) (12 - rows.length) rows).map fun r=>(r,cols++[col]) by
    rw [aa.out,E.out];show (if (!zcT cols col&&decide (cols.length≠20))=jV then _ else fW)=_;rw [if_pos z])
   have ax:=za (show zbG L f rows cs by
    rw [<- u];exact HI.out.addC (x:=col) (by
     unfold zfS;rw [(V.out col E.out).1,z];simpa using (V.out col E.out).2))
   rw [u] at l;clear u;have h3:=zfV s.out.ok T.out ak c.1 c.2 oM oM (oH hx1.size);have am:=za (m.1.far2 (Z:=W.heap.size+1) oM (fF R' rows.length Y) (fF C' cs.length X));have i:=za (g.1.far2 (Z:=W.heap.size+1) oM (fF R' rows.length Y) (fF C' cs.length X));have an:=za h3.1;have D:=za h3.2.1;have av:=za h3.2.2;have aF:=za m.2;have aj:=za g.2;clear h3 I p b z ak;go_upto_region 7 with fail
   clear k3 f3 m c g;generalize (w3.setCell ⟨W.heap.size+1,0,fW⟩ (fF R' rows.length Y)).setCell ⟨W.heap.size+1,1,fW⟩ (fF C' cs.length X)=w4 at *;have k2:=am.out.cell;have k3:=an.out.cell;have Q:=za (zgj s.out D.out.j oM av.out ax.out (oH D.out.size) hL);go_upto_region 99 with fail
   refine Q.out.mono ?_;rintro e w5 ⟨S5,H,k⟩;have d:=H.blk i.out aj.out;have U:=za ((D.out.trans H).more s.out.ok (show B+6000+21840<=B+27840 by omega));have k4:=d.1.cell;have f4:=d.1.frozen;clear k2 k3 Q;rcases k with ⟨hn,rfl⟩|⟨rs,F,R9,C9,cr9,cc9,I,rfl,al⟩
   ·have y:=za (show zbd L f rows cols x=fW by rw [l.out,hn]);have zku:=zhp s.out.ok U.out d.1 d.2 oM oM;have cf:=zku.1.cell;have Hk:=za zku.2;clear zku hn H;go_wp2_with fail
    clear k4 f4 d;generalize (w5.setCell ⟨W.heap.size+1+1,0,fW⟩ ()).setCell ⟨W.heap.size+1+1,1,fW⟩ ()=w9 at *;exact bodyPost_ret (v:=.tuple #[j4 #[(),()],j9 j3]) (by simp [results,Tryz.results54,go_sem,cf]) rfl ⟨S5,Hk.out,.inl ⟨y.out,rfl⟩⟩
   ·have y:=za (show zbd L f rows cols x=fV (rs,F) by rw [l.out,I]);have zku:=zfV s.out.ok U.out al d.1 d.2 oM oM (oH D.out.size);have cf:=zku.1.cell;have M:=za zku.2;clear zku I H al;go_wp2_with fail
    clear k4 f4 d;generalize (w5.setCell ⟨W.heap.size+1+1,0,fW⟩ (fF R9 rs.length cr9)).setCell ⟨W.heap.size+1+1,1,fW⟩ (fF C9 F.length cc9)=w9 at *;exact bodyPost_ret (v:=.tuple #[j4 #[fF R9 rs.length cr9,fF C9 F.length cc9],j9 jV]) (by simp [results,Tryz.results54,go_sem,cf]) rfl ⟨S5,M.out.1,.inr ⟨rs,F,R9,C9,cr9,cc9,y.out,rfl,M.out.2⟩⟩
end
theorem zero_pset (w:j2):(zeroValue 222).run j5 w=.ok (.agg (Array.replicate 12 (.int .u16 0))) w:=kM
theorem zaU:((j5).info? 222).map (·.size)=fV 12:=kM
theorem zir:(zbq (dT 12 0)).toArray=Array.replicate 12 (Value.int .u16 0):=by rfl
theorem zdG (hT:T.length=12) (hk:k<12) (w:j2):(Instr.index 222 (.agg (zbq T).toArray) (.int iX (k:Int))).run j5 w=.ok (.int .u16 (T.getD k 0:Nat)) w:=by
 have b:=Tryz.underlying222;have a:=Tryz.isAgg220;have c:=Tryz.sizeOf220;have h1:(zbq T)[k]?=fV (.int .u16 (T.getD k 0:Nat)):=zeZ oM;simp [Instr.index,run_underlying b,asIntOf,go_sem,hk,a,c,part,h1]
theorem zdb {ops:Array Oper} {rest:List Oper} {o:Oper} {a:Act}  {Q:Exit->Act->j2->Prop}(hgd:o.guard=fW) (x y:Operand)(ho:o.op=.store 222 x y) (g:Nat)(hx:a.eval x=.pointer (fV g))
  {T U:List Nat} (hy:a.eval y=.agg (zbq U).toArray) (hb:Blk w g 222 (zbq T).toArray) (hT:T.length=12) (hU:U.length=12)
  (h:∀ w',Blk w' g 222 (zbq U).toArray->Frm (fun k=>k=g) w w'->wpList j5 ops Q rest (a.put o.dst undef) w'):wpList j5 ops Q (o :: rest) a w:=by
 have h1:(zbq U).toArray.all (·.oneCell')=jV:=all_oneCell_toArray (fun v hv=>by
  obtain⟨z,_,rfl⟩:=List.mem_map.1 hv;rfl)
 have hs:((j5).info? 222).map (·.size)=fV (zbq U).toArray.size:=by
  rw [zaU];simp [zbq,hU]
 refine wpList_plain hgd fun _ hK=>?_;unfold Oper.wp execOp;simp only [ho,hx,hy,Instr.storeAt,Instr.sureAddr,Sem.run_bind,Sem.run_pure,Result.andThen_ok,run_storeVar_row w g 222 222 _ _ hb hs (by simp [zbq,hT,hU]) h1];refine hK _ _ (h _ ?_ ⟨rfl,rfl,rfl,sM,fun k hk hn=>?_⟩)
 ·exact setRow_heap w g _ _ _ _ hb
 ·exact setRow_other w g k _ hn
def RetSMv (F:Sfx) (l:Nat) (T:List Nat) (W:j2) (e:Ending) (W':j2):Prop:=∃ U,e=j7 (zhb U)/\MvP F.s F.p l T 12 U/\Ext W W'
theorem zkk {U:List Nat} {j x:Nat}:(zbq U).toArray.setIfInBounds j (.int .u16 (x:Nat))=(zbq (U.set j x)).toArray:=by
 simp [zbq,List.map_set]
section
variable {F:Sfx} {Ts:List (List Nat)} {nx:Nat->Nat->Int} {k:Nat} {M:List Nat->Option Nat} {vs vn vu:j6} {W:j2}
theorem sf_move (hF:zix F)(h:zeP F Ts nx k M vs vn vu W) (hT:WS F.p T) (hl:l<6) :
  j8 j5 198 #[.pointer (fV ⟨F.G,0,fW⟩),zhb T,l] W (RetSMv F l T W):=by
 have R:=zcl hF.hs;have hp:=hF.hp;obtain⟨ae,af⟩:=zac hF.hs;obtain⟨al,D⟩:∃ al:Nat,Hid (F.s.al=al):=⟨F.s.al.toNat,by unfold Hid;omega⟩;have ag:al<64:=oH D.out;have HF:=za hF;have HM:=za h;have HT:=za hT;have g:=za R;have Hp:=za hp;have bG:=h.blk;have O:=h.red hF;have HR:=za O;have HV:=za (show ∀ x∈T,x<65536 from hT.lt);have zp:=zero_pset;have t:=za hT.len;obtain⟨lo,hi,b⟩:=O.rule;have B:=za b;have J:=za O.mov;have L:=za O.tab;clear hF h hT R hp O b ae af;unfold zhb
 go_enter Tryz.func198,Tryz.ntmps198
 go_upto_region 2 with fail
 obtain⟨b4,o,f⟩:=zL (cY (((W.alloc (.cells (zbq T).toArray 222)).alloc (.cells (Array.replicate 12 (.int .u16 0)) 222)).alloc (.cells (Array.replicate 12 (.int .u16 0)) 222)));have V:Ext W (((W.alloc (.cells (zbq T).toArray 222)).alloc (.cells (Array.replicate 12 (.int .u16 0)) 222)).alloc (.cells (Array.replicate 12 (.int .u16 0)) 222)):=(((cY _).alloc _).alloc _).alloc _;generalize ((W.alloc (.cells (zbq T).toArray 222)).alloc (.cells (Array.replicate 12 (.int .u16 0)) 222)).alloc (.cells (Array.replicate 12 (.int .u16 0)) 222)=w3 at *;rw [<- zir] at f o;have S:(zbq T).toArray.size=12:=by simp [zbq,t.out]
 go_upto_region 3 with (refine wpList_load_row rfl _ _ rfl _ rfl _ _ _ _ b4 Tryz.underlying222 rfl (by rw [S];exact zaU) ?_)
 go_wp2_with fail
 go_loopw [8,9,10,12] (fun _ _ _ i wr=>∃ (k:Nat) (U:List Nat),i=.int iX k/\k<=12/\Hid (MvP F.s F.p l T k U)/\Blk wr (W.heap.size+1+1) 222 (zbq U).toArray/\Blk wr (W.heap.size+1) 222 (zbq (dT 12 0)).toArray/\Ext W wr) (fun _ _ _ i _=>12 - (intOf i).toNat)
 case atStart=>exact⟨0,_,rfl,dH _,za MvP.zero,f,o,V⟩
 case round =>
  clear b4 o f V;obtain⟨k,U,rfl,hk,m,f,o,n⟩:=hrel
  by_cases hlt:k<12
  ·have ah:=zdG t.out hlt;obtain⟨x,d⟩:∃ x,Hid (T.getD k 0=x):=⟨_,rfl⟩;rw [d.out] at ah;have u:x<65536:=by rw [<- d.out];exact zbF HV.out k
   by_cases h0:x=0
   ·have a:=za (m.out.skip (by rw [d.out];exact h0));subst h0;go_wp2_with fail
    go_roundw
    case rel=>exact⟨k+1,U,gM,oM,a,f,o,n⟩
    case measure=>exact uM
   ·have Q:k<F.p.next.length:=HT.out.idx (by rw [d.out];exact h0);have au:(k:Int)<(F.p.next.length:Int):=oM;have aC:(l:Int)<6:=oM;have aD:((x:Int)==0)=j3:=by simp;omega
    obtain⟨gR,oR,C,E⟩:=(B.out.ext n).at_ Q hl;have ax:=za C;have hj:aGo F.p k l<12:=by
     have h1:=zdL Hp.out Q hl;have h2:=(zk Hp.out).2.1;omega
    have a:=za (m.out.step g.out HV.out hj);rw [d.out] at a;obtain⟨j,aj⟩:∃ j,Hid (aGo F.p k l=j):=⟨_,rfl⟩;rw [aj.out] at E hj a;have aB:(j:Int)<12:=oM;have ad:=za (show j<U.length by rw [m.out.1];exact hj);obtain⟨z,hz⟩:∃ z,Hid (U.getD j 0=z):=⟨_,rfl⟩;have C7:∀ X,Ext wr X->X.cell? ⟨W.heap.size+1+1,j,fW⟩=fV (.int .u16 (z:Nat)):=fun X hX=>by
     rw [(f.ext hX).cell,List.getElem?_toArray,zeZ ad.out,hz.out]
    have F7:∀ X,Ext wr X->X.frozen? ⟨W.heap.size+1+1,j,fW⟩=j3:=fun X hX=>(f.ext hX).frozen j;have Z:z<65536:=by rw [<- hz.out];exact zbF m.out.2.1 j
    have BG:∀ X,Ext wr X->∀ i,X.cell? ⟨F.G,i,fW⟩=(sfC F vs vn vu)[i]?:=fun X hX=>(bG.ext (n.trans hX)).cell;simp only [sfC,D.out] at BG;have CR:∀ X,Ext wr X->X.cell? ⟨gR,oR+k*6+l,fW⟩=fV (.int iX (j:Nat)):=fun X hX=>hX.aa E;have hww:=cY wr;have I:=za (show al=F.s.al.toNat by have:=D.out;omega);obtain⟨y,hy⟩:∃ y,Hid (goS F.s l x=y):=⟨_,rfl⟩;have Y:y<65536:=by rw [<- hy.out];exact goS_lt g.out u
    have aE:=u16_or_nat z y Z Y;have aF:IntKind.u16.wrap (y:Int)=y:=by rw [IntKind.wrap_u16];omega
    rw [hz.out,hy.out] at a;have B7:=za f;have B6:=za o;rw [C] at BG;clear f o E C h0;cases hb:hasB al (l:Int) with
    |false =>
     have Hb:=za hb;have H:=za (show x=y by
      rw [<- hy.out];unfold goS;rw [if_neg];rw [<- I.out];simpa [hasB] using hb)
     clear hb;obtain rfl:=H.out;go_wp2_with (go_at_call 127;refine (zbN al (l:Int) tM _).mono ?_;rw [Hb.out];rintro e w' ⟨rfl,rfl⟩)
     go_roundw
     case rel=>exact⟨k+1,U.set j (z|||x),gM,oM,a,by rw [<- zkk];exact B7.out.ae j _,B6.out.far sM _,n.setCell (p:=⟨W.heap.size+1+1,j,fW⟩) (by simp;omega) _⟩
     case measure=>exact uM
    |true =>
     have Hb:=za hb;have H:=za (show zcq F.s.edges x (l:Int)=y by
      rw [<- hy.out];unfold goS;rw [if_pos];rw [<- I.out];simpa [hasB] using hb)
     clear hb;go_wp2_with (first
      |(go_at_call 127;refine (zbN al (l:Int) tM _).mono ?_;rw [Hb.out];rintro e w' ⟨rfl,rfl⟩)
      |(go_at_call 191;refine (impl_step (k0:=F.s.st.toNat) (J.out.ext n) (L.out.ext n) u hl g.out.2.2.1 (oH g.out.2.1)).mono ?_;rw [H.out];rintro e w5 ⟨rfl,c⟩))
     go_roundw
     case rel=>exact⟨k+1,U.set j (z|||y),gM,oM,a,by rw [<- zkk];exact (B7.out.ext c).ae j _,(B6.out.ext c).far sM _,(n.trans c).setCell (p:=⟨W.heap.size+1+1,j,fW⟩) (by simp;omega) _⟩
     case measure=>exact uM
  ·obtain rfl:k=12:=oM;have ak:(zbq U).toArray.size=12:=by simp [zbq,m.out.1]
   have aw:=za (show RetSMv F l T W (j7 (zhb U)) wr from ⟨U,rfl,m.out,n⟩);have r:(zbq U).toArray.size=12:=by simp [zbq,m.out.1]
   go_wp2_with (first
    |(refine wpList_load_row rfl _ _ rfl _ rfl _ _ _ _ f Tryz.underlying222 rfl (by rw [r];exact zaU) ?_)
    |(refine zdb rfl _ _ rfl _ rfl rfl o sM m.out.1 ?_;intro w5 b6' hf5))
   have c:Ext W w5:=n.frm hf5 (fun q hq e=>by subst e;omega);exact bodyPost_ret (v:=zhb U) (results_cell_row (p:=6) (ty:=222) Tryz.results198 _ _ (W.heap.size+1) _ _ _ _ rfl b6' Tryz.underlying222 rfl (by rw [r];exact zaU)) rfl ⟨U,rfl,m.out,c⟩
end
end Go.Proofs.YtckbjnndaaoddaaGreatDoor
