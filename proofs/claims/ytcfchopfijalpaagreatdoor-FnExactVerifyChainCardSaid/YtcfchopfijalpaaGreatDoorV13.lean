/- The referenc -/
import Derived.Test.YtcfchopfijalpaaGreatDoorV12
set_option maxHeartbeats 4000000
set_option maxRecDepth 100000
namespace Go.Proofs.YtcfchopfijalpaaGreatDoor
open Go Go.RowKit
open Blk renaming new->eX
open Bool renaming and_eq_true->eG,or_eq_true->gO
open Ext renaming bl_->eR,eq_->gG,refl->dB
open Frm renaming setCell->eC
open Int renaming cast_ofNat_Int->jM,natCast_add->h7,toNat_natCast->fC
open List renaming all_eq_true->fF,getD_eq_getElem?_getD->eF,getElem?_eq_getElem->dC,getElem?_eq_none->eP,getElem?_set_ne->fN,getElem?_set_self->gN,length_drop->iE,length_map->eQ,mem_of_mem_drop->jU,range->fE,take_add_one->eH,take_of_length_le->eE
open Nat renaming add_assoc->fV,le_refl->eA,le_trans->eJ,lt_or_ge->fK,mod_eq_of_lt->iS,mul_comm->gF,testBit_and->gP,zero_le->eD
open Option renaming getD_some->gE,toList_some->e7
open Reads renaming ae->eY
variable {A A':Option Addr} {K L base c c' g hi j k lo n n':Nat} {S:Nat->Prop} {W w w0:World} {a p:Aut} {al:Int} {e:Ending} {f:ByteArray->Bool} {l:List Int} {ls:List (List Int)} {rows:List Value} {s t:Sys} {ss:List Sys} {v:List Nat} {x:ByteArray}
noncomputable def zbb (s:Sys) (p:Aut) (t:Sys) (L:Nat) (a:Aut):ByteArray × Int:=
 if zbF s a p=true then (zam (zaE s a p) L,-1)
 else if zbw [t] a=true then (zam (zR [t] a) L,if zo s p L (zam (zR [t] a) L)=true then -1 else 1)
 else (⟨#[]⟩,0)
section
variable {w:World} {lo hi n c lo1 hi1 m d m' d' lo2 hi2 k c2 k1 d1 k1' d1' L:Nat} {A B B' C X X':Option Addr} {s t:Sys} {p a:Aut}
theorem zeL (ht:zN w lo hi C k t)(ha:zC w lo1 hi1 X k1 X' k1' a) :
  Calls Tryz.prog 242 #[.agg #[t.al,t.st,.slice C k c2],.agg #[a.al,.slice X k1 d1,.slice X' k1' d1']] w fun e w'=>e=.returned (.tuple #[.string (zR [t] a),.bool (zbw [t] a)])∧Ext w w':=by
 have m:=za (fun W (hW:Ext w W)=>ht.ext hW);have j:=za (fun W (hW:Ext w W)=>ha.ext hW);clear ht ha
 go_enter Tryz.func242,Tryz.ntmps242
 go_upto_region 1 with fail
 generalize U0:(w.alloc _).alloc _=i at *;obtain⟨d,n,o⟩:=Ext.x2_ U0;clear U0;have s:=n.cell;have b:=(dB i).alloc (.cells #[t.al,t.st,.slice C k c2] 38);have h:=eX i 38 #[t.al,t.st,.slice C k c2];obtain⟨r,q,f⟩:=sl_one h (m.out _ (d.trans b));have p:=(o.ext b).cell;have l:=za (zbA (c:=1) (d2:=d1) (d2':=d1') f (j.out _ (d.trans b)));clear f h;go_wp2_with fail
 refine l.out.mono (mQ fun u g=>?_);go_wp2_with fail
 go_ret2;exact⟨rfl,(d.trans b).trans g⟩
theorem ziQ (h:Tch w A n B m B' m' s p L)(ht:zN w lo hi C k t)(ha:zC w lo1 hi1 X k1 X' k1' a) (vt:zl t=true) (va:zj a=true) :
  Calls Tryz.prog 175 #[.agg #[t.al,t.st,.slice C k c2],.agg #[s.al,s.st,.slice A n c,p.al,.slice B m d,.slice B' m' d',L],.agg #[a.al,.slice X k1 d1,.slice X' k1' d1']] w fun e w'=>e=.returned (.tuple #[.string (zbb s p t L a).1,.int .i64 (zbb s p t L a).2])∧Ext w w':=by
 have hL:=h.lt;have q:=za (fun W (hW:Ext w W)=>by
  obtain⟨lo,hi,I,T,_⟩:=h.at_;exact zcD (c:=c) (d1:=d1) (d1':=d1') (d2:=d) (d2':=d') (I.ext hW) (ha.ext hW) (T.ext hW))
 have HS:=za (fun W (hW:Ext w W) (y:ByteArray) hy=>by
  obtain⟨lo,hi,I,T,h3⟩:=h.at_;exact zdB (c:=c) (d:=d) (d':=d') (L:=L) (t:=y) (I.ext hW) (T.ext hW) h.sv h.pv h.lt (eJ h3 hW.size) hy)
 have v:=za (fun W (hW:Ext w W)=>zeL (c2:=c2) (d1:=d1) (d1':=d1') (ht.ext hW) (ha.ext hW));have hu:=za (zcF h.sv va h.pv);have U:=za (zcw (ss:=[t]) (p:=a) (by unfold zA;simp [vt]) va);have o:=za (show zbb s p t L a=if zbF s a p=true then (zam (zaE s a p) L,-1)
  else if zbw [t] a=true then (zam (zR [t] a) L,if zo s p L (zam (zR [t] a) L)=true then -1 else 1)
  else (⟨#[]⟩,0) from rfl)
 generalize zbb s p t L a=J at *;obtain⟨O,aa⟩:∃ O,Hid (zaE s a p=O):=⟨_,rfl⟩;obtain⟨H,V⟩:∃ H,Hid (zR [t] a=H):=⟨_,rfl⟩;rw [aa.out] at q hu o;rw [V.out] at v U o;have b:Ext w (((w.alloc (.cells #[t.al,t.st,.slice C k c2] 38)).alloc (.cells #[s.al,s.st,.slice A n c,p.al,.slice B m d,.slice B' m' d',L] 96)).alloc (.cells #[a.al,.slice X k1 d1,.slice X' k1' d1'] 31)):=(((dB _).alloc _).alloc _).alloc _;obtain⟨Q,R,S⟩:=zM (dB (((w.alloc (.cells #[t.al,t.st,.slice C k c2] 38)).alloc (.cells #[s.al,s.st,.slice A n c,p.al,.slice B m d,.slice B' m' d',L] 96)).alloc (.cells #[a.al,.slice X k1 d1,.slice X' k1' d1'] 31)));clear h ht ha vt va;cases hub:zbF s a p
 ·cases hbb:zbw [t] a
  ·have f:=za (show J=(⟨#[]⟩,0) by rw [o.out,hub,hbb];rfl);rw [hub] at q;rw [hbb] at v;rw [f.out];clear o f hub hbb
   go_enter Tryz.func175,Tryz.ntmps175
   go_upto_region 1 with fail
   generalize ((w.alloc _).alloc _).alloc _=F at *;have CT:=Q.cells;have CK:=R.cells;have CA:=S.cells;have D:=dB F;go_wp2_with (first
    |(go_at_call 72;refine (q.out _ b).mono (mQ fun w1 g=>?_))
    |(go_at_call 242;refine (v.out _ (b.trans g)).mono (mQ fun w2 r=>?_);have l:=g.trans r))
   go_ret2;exact⟨rfl,b.trans l⟩
  ·obtain⟨j,z⟩:∃ j,Hid (zam H L=j):=⟨_,rfl⟩;have G:=za (fun W=>zaM (w:=W) (s:=H) (a:=L) U.out.1 oM);have Y:=za (show j.size<=9223372036854775807 by
    rw [← z.out];have I:=zaU (zaJ (zbP U.out.1 L));omega)
   rw [z.out] at G o;have x:=za (fun W (hW:Ext w W)=>HS.out W hW j Y.out);obtain⟨M,Z⟩:∃ M,Hid (zo s p L j=M):=⟨_,rfl⟩;rw [Z.out] at x o;rw [hub] at q;rw [hbb] at v;have f:=za (show J=(j,if M=true then -1 else 1) by rw [o.out,hub,hbb];rfl);rw [f.out];clear o f hub hbb;cases M
   all_goals
    go_enter Tryz.func175,Tryz.ntmps175
    go_upto_region 1 with fail
    generalize ((w.alloc _).alloc _).alloc _=F at *;have CT:=Q.cells;have CK:=R.cells;have CA:=S.cells;have D:=dB F;go_wp2_with (first
     |(go_at_call 72;refine (q.out _ b).mono (mQ fun w1 g=>?_))
     |(go_at_call 242;refine (v.out _ (b.trans g)).mono (mQ fun w2 r=>?_);have l:=g.trans r)
     |(go_at_call 73;refine (G.out _).mono (mQ fun w3 u=>?_);have i:=l.trans u)
     |(go_at_call 75;refine (x.out _ (b.trans i)).mono (mQ fun w4 ab=>?_);have E:=i.trans ab))
    go_ret2;exact⟨rfl,b.trans E⟩
 ·have G:=za (fun W=>zaM (w:=W) (s:=O) (a:=L) hu.out.1 oM);rw [hub] at q;have f:=za (show J=(zam O L,-1) by rw [o.out,hub];rfl);rw [f.out];clear o f hub
  go_enter Tryz.func175,Tryz.ntmps175
  go_upto_region 1 with fail
  generalize ((w.alloc _).alloc _).alloc _=F at *;have CT:=Q.cells;have CK:=R.cells;have CA:=S.cells;have D:=dB F;go_wp2_with (first
   |(go_at_call 72;refine (q.out _ b).mono (mQ fun w1 g=>?_))
   |(go_at_call 73;refine (G.out _).mono (mQ fun w3 u=>?_);have i:=g.trans u))
  go_ret2;exact⟨rfl,b.trans i⟩
end
structure Vd where
 code:Int
 asm:Aut
 tr:ByteArray
 ro:Nat
def noA:Aut:=⟨0,[],[]⟩
noncomputable def runT (s t:Sys) (p:Aut) (L:Nat):Nat->Nat->Option (List ByteArray × List ByteArray)->Vd
 |0,k,_=>⟨2,noA,⟨#[]⟩,k⟩
 |_+1,k,none=>⟨2,noA,⟨#[]⟩,k⟩
 |f+1,k,some tab =>
  if (zbb s p t L (zcx L (zo s p L) tab.1 tab.2)).2=0 then ⟨0,zcx L (zo s p L) tab.1 tab.2,⟨#[]⟩,k+1⟩
  else if (zbb s p t L (zcx L (zo s p L) tab.1 tab.2)).2=1 then ⟨1,noA,zR [s,t] p,k+1⟩
  else runT s t p L f (k+1) (zaq L (zo s p L) tab.1 tab.2 (zbb s p t L (zcx L (zo s p L) tab.1 tab.2)).1)
def zdb (w:World) (v:Vd) (e:Ending) (w':World):Prop:=
 ∃ (A:Option Addr) (n c:Nat) (A':Option Addr) (n' c':Nat) (x:Int) (X:Option Addr) (k1 d1:Nat) (X':Option Addr) (k1' d1':Nat),
  e=.returned (.tuple #[.agg #[v.code,v.asm.al,.slice A n c,.slice A' n' c',v.tr,v.ro],.agg #[x,.slice X k1 d1,.slice X' k1' d1']])∧zY w' w.heap.size A n c A' n' c' v.asm∧Ext w w'
def zdM (L:Nat) (f:ByteArray->Bool) (o:Option (List ByteArray × List ByteArray)):Prop:=∀ rs cs,o=some (rs,cs)->zbG L f rs cs∧zaw L f rs cs=none
theorem zdM.new (L:Nat) (f:ByteArray->Bool):zdM L f ((zO L f [⟨#[]⟩] 11 [⟨#[]⟩]).map fun r=>(r,[⟨#[]⟩])):=by
 intro rs cs h;obtain⟨r,c,e⟩:=Option.map_eq_some_iff.1 h;obtain⟨rfl,rfl⟩:=Prod.mk.inj e;obtain⟨a,b,-⟩:=zgD 11 _ _ (zbG.first L f) dM c
 exact⟨a,b⟩
theorem zdM.ao {rows cols:List ByteArray}(h:zbG L f rows cols) (x:ByteArray):zdM L f (zaq L f rows cols x):=by
 intro rs cs hl;unfold zaq at hl
 split at hl
 ·cases hl
 ·rename_i col hc
  split at hl
  ·rename_i ha;obtain⟨r,d,e⟩:=Option.map_eq_some_iff.1 hl;obtain⟨rfl,rfl⟩:=Prod.mk.inj e;have c:=h.addC ha;obtain⟨a,b,-⟩:=zgD _ _ _ c (oH h.r12) d;exact⟨a,b⟩
  ·cases hl
theorem judgeT_size (hs:zl s=true)(hp:zj p=true)(ht:zl t=true)(ha:zj a=true):(zbb s p t L a).1.size<=50000:=by
 have b:=zcF hs ha hp;have c:=zcw (ss:=[t]) (p:=a) (by unfold zA;simp [ht]) ha;unfold zbb;split
 ·exact zaU (zaJ (zbP b.1 L))
 ·split
  ·exact zaU (zaJ (zbP c.1 L))
  ·exact eD _
def TabM (w0 W:World) (g:Nat) (o:Option (List ByteArray × List ByteArray)):Prop:=
 ∃ (nr nc:Nat) (R:Option Addr) (cr:Nat) (C:Option Addr) (cc:Nat),Blk W g 101 #[.slice R nr cr,.slice C nc cc]∧nr<=cr∧nc<=cc ∧
  ∀ rs cs,o=some (rs,cs)->W.ownsRow w0.heap.size 9 1 (.slice R nr cr) nr (zL rs)∧W.ownsRow w0.heap.size 9 1 (.slice C nc cc) nc (zL cs)
theorem TabM.far {W':World} {G:Nat} {o:Option (List ByteArray × List ByteArray)} {cs:Array Value} {t:TypeId}(h:TabM w0 W g o)(hB:Blk W G t cs)(hf:Frm (fun k=>k=G) W W')(hg:g≠G)(ht:9≠t):TabM w0 W' g o:=by
 obtain⟨m,l,R,d,C,c,j,f,i,a⟩:=h;exact⟨m,l,R,d,C,c,j.frm hf hg,f,i,fun rs cs e=>⟨zh (a rs cs e).1 hf (fun b hv e'=>zw (a rs cs e).1 hB ht hv e'),zh (a rs cs e).2 hf (fun b hv e'=>zw (a rs cs e).2 hB ht hv e')⟩⟩
theorem zcl.fill {o:Option (List ByteArray × List ByteArray)} (h:zcl w o e W)(hw:w0.heap.size<=w.heap.size) :
  Ext w W∧∃ (nr nc:Nat) (R:Option Addr) (cr:Nat) (C:Option Addr) (cc:Nat),e=.returned (.tuple #[.agg #[.slice R nr cr,.slice C nc cc],.bool o.isSome])∧nr<=cr∧nc<=cc ∧
   ∀ rs cs,o=some (rs,cs)->W.ownsRow w0.heap.size 9 1 (.slice R nr cr) nr (zL rs)∧W.ownsRow w0.heap.size 9 1 (.slice C nc cc) nc (zL cs):=by
 obtain⟨c,⟨rfl,rfl⟩|⟨rs,cs,nr,nc,R,cr,C,cc,rfl,rfl,a,b⟩⟩:=h
 ·exact⟨c,0,0,none,0,none,0,rfl,eA _,eA _,fun _ _ e=>by cases e⟩
 ·refine⟨c,nr,nc,R,cr,C,cc,rfl,zgu a,zgu b,fun rs' cs' e=>?_⟩;obtain⟨rfl,rfl⟩:=Prod.mk.inj (Option.some.inj e);exact⟨zr a hw,zr b hw⟩
theorem sl_pair {lo2 hi2 c2:Nat} {C:Option Addr} (hb:Blk w g 38 #[s.al,s.st,.slice A n c,t.al,t.st,.slice C k c2])(h:zN w lo hi A n s)(h':zN w lo2 hi2 C k t):∃ lo hi,zda w lo hi (some ⟨g,0,none⟩) 2 [s,t]:=by
 refine⟨0,hi+hi2+g+1,rfl,[.int .i64 s.al,.int .i64 s.st,.slice A n c,.int .i64 t.al,.int .i64 t.st,.slice C k c2],⟨rfl,oM,fun _=>⟨_,rfl,eD _,by dsimp only;omega,fun j u hu=>?_⟩⟩,fun j u hu=>?_⟩
 ·rw [zaI,Nat.zero_add,hb.cell];simpa using hu
 ·match j with
  |0 =>
   simp at hu;subst hu;exact⟨A,n,c,rfl,rfl,rfl,h.1,h.2.more (eD _) oM⟩
  |1 =>
   simp at hu;subst hu;exact⟨C,k,c2,rfl,rfl,rfl,h'.1,h'.2.more (eD _) oM⟩
  |j+2=>simp at hu
theorem zdb.drew {v:Vd} (h:zdb w v e W):zdb w v e W.drew:=by
 obtain⟨A,n,c,a,g,b,x,X,k1,d1,X',k1',d1',d,ho,f⟩:=h;have hd:Ext W W.drew:=(dB W).drew;exact⟨A,n,c,a,g,b,x,X,k1,d1,X',k1',d1',d,ho.ext hd,f.trans hd⟩
theorem zdb.cast {v u:Vd} (hu:u=v)(h:zdb w v e W):zdb w u e W:=hu ▸ h
def roAt (W:World) (g:Nat):Nat:=match W.cell? ⟨g,5,none⟩ with|some (.int _ z)=>z.toNat|_=>0
theorem roAt_blk {t:TypeId} {u0 u1 u2 u3 u4:Value}(h:Blk W g t #[u0,u1,u2,u3,u4,j]):roAt W g=j:=by
 unfold roAt;rw [h.cell 5];exact fC j
theorem runT_end {o:Option (List ByteArray × List ByteArray)}(h:¬ (o.isSome=true∧j<K)):runT s t p L (K - j) j o=⟨2,noA,⟨#[]⟩,j⟩:=by
 cases hk:K - j with
 |zero=>rfl
 |succ f =>
  cases o with
  |none=>rfl
  |some tab=>exact absurd ⟨rfl,oM⟩ h
theorem zcX (W:World) (Z:Nat) (u0 u1 u2 u3 u4 u5:Value):Frm (fun k=>k=Z) W ((((((W.setCell Z u0).setCell ⟨Z,1,none⟩ u1).setCell ⟨Z,2,none⟩ u2).setCell ⟨Z,3,none⟩ u3).setCell ⟨Z,4,none⟩ u4).setCell ⟨Z,5,none⟩ u5):=
 (((((eC W _ 0 _).trans (eC _ _ 1 _)).trans (eC _ _ 2 _)).trans (eC _ _ 3 _)).trans (eC _ _ 4 _)).trans (eC _ _ 5 _)
theorem Frm.drew {a:World}(h:Frm S a w):Frm S a w.drew:=⟨h.os,h.tape,h.output,h.size,h.block⟩
theorem zgv {Z k1 d1 k1' d1':Nat} {X X':Option Addr} {v:Vd} {x:Int} {vs us:Array Value}(hx:Ext w W)(hv:Blk W Z 67 vs)(hu:Blk W (Z+1) 31 us)(h6:vs.size=6)(h3:us.size=3)(hZ:w.heap.size<=Z)(ho:zY W w.heap.size A n c A' n' c' v.asm) :
  Hid (zdb w v (.returned (.tuple #[.agg #[v.code,v.asm.al,.slice A n c,.slice A' n' c',v.tr,v.ro],.agg #[x,.slice X k1 d1,.slice X' k1' d1']]))
   (((((((((W.setCell Z v.code).setCell ⟨Z,1,none⟩ v.asm.al).setCell ⟨Z,2,none⟩ (.slice A n c)).setCell ⟨Z,3,none⟩ (.slice A' n' c')).setCell ⟨Z,4,none⟩ v.tr).setCell ⟨Z,5,none⟩ v.ro).setCell ⟨Z+1,0,none⟩ x).setCell ⟨Z+1,1,none⟩ (.slice X k1 d1)).setCell ⟨Z+1,2,none⟩ (.slice X' k1' d1'))) ∧
  Blk (((((((((W.setCell Z v.code).setCell ⟨Z,1,none⟩ v.asm.al).setCell ⟨Z,2,none⟩ (.slice A n c)).setCell ⟨Z,3,none⟩ (.slice A' n' c')).setCell ⟨Z,4,none⟩ v.tr).setCell ⟨Z,5,none⟩ v.ro).setCell ⟨Z+1,0,none⟩ x).setCell ⟨Z+1,1,none⟩ (.slice X k1 d1)).setCell ⟨Z+1,2,none⟩ (.slice X' k1' d1')) Z 67 #[v.code,v.asm.al,.slice A n c,.slice A' n' c',v.tr,v.ro] ∧
  Blk (((((((((W.setCell Z v.code).setCell ⟨Z,1,none⟩ v.asm.al).setCell ⟨Z,2,none⟩ (.slice A n c)).setCell ⟨Z,3,none⟩ (.slice A' n' c')).setCell ⟨Z,4,none⟩ v.tr).setCell ⟨Z,5,none⟩ v.ro).setCell ⟨Z+1,0,none⟩ x).setCell ⟨Z+1,1,none⟩ (.slice X k1 d1)).setCell ⟨Z+1,2,none⟩ (.slice X' k1' d1')) (Z+1) 31 #[.int .i64 x,.slice X k1 d1,.slice X' k1' d1']:=by
 obtain⟨j⟩:=vs
 match j,h6 with
 |[a0,a1,a2,a3,a4,a5],_ =>
 have a:Frm (fun k=>k=Z) W ((((((W.setCell Z v.code).setCell ⟨Z,1,none⟩ v.asm.al).setCell ⟨Z,2,none⟩ (.slice A n c)).setCell ⟨Z,3,none⟩ (.slice A' n' c')).setCell ⟨Z,4,none⟩ v.tr).setCell ⟨Z,5,none⟩ v.ro):=
  (((((eC W _ 0 _).trans (eC _ _ 1 _)).trans (eC _ _ 2 _)).trans (eC _ _ 3 _)).trans (eC _ _ 4 _)).trans (eC _ _ 5 _)
 have g:Blk ((((((W.setCell Z v.code).setCell ⟨Z,1,none⟩ v.asm.al).setCell ⟨Z,2,none⟩ (.slice A n c)).setCell ⟨Z,3,none⟩ (.slice A' n' c')).setCell ⟨Z,4,none⟩ v.tr).setCell ⟨Z,5,none⟩ v.ro) Z 67 #[.int .i64 v.code,.int .i64 v.asm.al,.slice A n c,.slice A' n' c',.string v.tr,.int .i64 v.ro]:=by
  simpa using (((((hv.ab 0 (.int .i64 v.code)).ab 1 (.int .i64 v.asm.al)).ab 2 (.slice A n c)).ab 3 (.slice A' n' c')).ab 4 (.string v.tr)).ab 5 (.int .i64 v.ro)
 have f:=ho.ai hv a dM;have d:=hu.frm a oM;have h:Ext w ((((((W.setCell Z v.code).setCell ⟨Z,1,none⟩ v.asm.al).setCell ⟨Z,2,none⟩ (.slice A n c)).setCell ⟨Z,3,none⟩ (.slice A' n' c')).setCell ⟨Z,4,none⟩ v.tr).setCell ⟨Z,5,none⟩ v.ro):=hx.frm a (fun k hk e=>oM);generalize (((((W.setCell Z v.code).setCell ⟨Z,1,none⟩ v.asm.al).setCell ⟨Z,2,none⟩ (.slice A n c)).setCell ⟨Z,3,none⟩ (.slice A' n' c')).setCell ⟨Z,4,none⟩ v.tr).setCell ⟨Z,5,none⟩ v.ro=i at *;have b:=zau i (Z+1) (.int .i64 x) (.slice X k1 d1) (.slice X' k1' d1');exact⟨za ⟨A,n,c,A',n',c',x,X,k1,d1,X',k1',d1',rfl,f.ai d b dM,h.frm b (fun k hk e=>oM)⟩,g.frm b oM,zba d h3 _ _ _⟩
section
variable {w:World} {lo hi n c lo1 hi1 m d m' d' lo2 hi2 k c2:Nat} {A B B' C:Option Addr} {s t:Sys} {p:Aut}
theorem yV13a1 {P:Prop}(h:P:=by
 clear hflag hgo ho hon hne1 hne2 hd hb8 hb9' hxw;go_wp2_with fail
 refine zbf (fun Y=>Frm (fun b=>b=Z) wr Y) [3] (zu.of [0,1,2,3]) kM kM kM kM kM (fun _ _ _ _ _ h=>h) hS0 ?_;refine zbr (v:=?_) rfl rfl rfl rfl (fun X hX=>?_) ?_
 rotate_left
 focus (go_simp<;>with_reducible rfl)
 refine pT ?_;refine zbr (v:=?_) rfl rfl rfl rfl (fun X hX=>?_) ?_
 rotate_left
 focus (go_simp<;>with_reducible rfl)
 refine pT ?_;refine ze fun K hK=>?_;go_simp;refine hK.out _ _ hf8.out.drew ?_;refine pT ?_;refine zb fun K hK=>?_;go_simp;refine hK.out _ _ ?_;refine zf ?_;go_wp2_with fail
 have cf2:=F2.out.cell;have cf3:=F3.out.cell;exact bodyPost_ret (v:=.tuple #[.agg #[(2:Int),(0:Int),(),(),.string ⟨#[]⟩,j],.agg #[x,.slice X k1 d1,.slice X' k1' d1']]) (by simp [results,Tryz.results97,go_sem,cf2,cf3]) rfl F1.out
 ):P:=h
theorem spec_l12Run (hs:zN w lo hi A n s)(hp:zC w lo1 hi1 B m B' m' p)(ht:zN w lo2 hi2 C k t)(hif:iface s p t=(L:Int))(hn:n<=1000000)(hhi:hi<=w.heap.size)(hK:K<=1000) :
  Calls Tryz.prog 97 #[.agg #[s.al,s.st,.slice A n c],.agg #[t.al,t.st,.slice C k c2],.agg #[p.al,.slice B m d,.slice B' m' d'],K] w
   (zdb w (runT s t p L K 0 ((zO L (zo s p L) [⟨#[]⟩] 11 [⟨#[]⟩]).map fun r=>(r,[⟨#[]⟩])))):=by
 obtain⟨vs,vp,vt⟩:=zbK (show 0<=iface s p t by omega);have Hv:=za (And.intro vs (And.intro vp vt));have bk:=za (fun W (hW:Ext w W)=>spec_TaskOf (c:=c) (d:=d) (d':=d') (c2:=c2) (hs.ext hW) (hp.ext hW) (ht.ext hW) hif hn (eJ hhi hW.size));have bL:=za (fun W (hW:Ext w W)=>show Calls Tryz.prog 147 #[.slice (some W.heap.size) 2 2,.agg #[p.al,.slice B m d,.slice B' m' d']] (W.alloc (.cells #[s.al,s.st,.slice A n c,t.al,t.st,.slice C k c2] 38)) (fun e w'=>e=.returned (.tuple #[.string (zR [s,t] p),.bool (zbw [s,t] p)])∧Ext W w') by
  have f6:=(dB W).alloc (.cells #[s.al,s.st,.slice A n c,t.al,t.st,.slice C k c2] 38);obtain⟨l1,l2,cA⟩:=sl_pair (eX W 38 #[s.al,s.st,.slice A n c,t.al,t.st,.slice C k c2]) (hs.ext (hW.trans f6)) (ht.ext (hW.trans f6));exact (zbA cA (hp.ext (hW.trans f6))).mono (fun e w' h=>⟨h.1,f6.trans h.2⟩))
 have c6:=za (fun W (hW:Ext w W)=>hs.ext hW);have cp:=za (fun W (hW:Ext w W)=>ht.ext hW);obtain⟨ag,bB⟩:∃ ag,Hid (runT s t p L K 0 ((zO L (zo s p L) [⟨#[]⟩] 11 [⟨#[]⟩]).map fun r=>(r,[⟨#[]⟩]))=ag):=⟨_,rfl⟩;have bh:=za (zdM.new L (zo s p L));rw [bB.out];obtain⟨aC,bf⟩:∃ aC,Hid ((zO L (zo s p L) [⟨#[]⟩] 11 [⟨#[]⟩]).map (fun r=>(r,[(⟨#[]⟩:ByteArray)]))=aC):=⟨_,rfl⟩;rw [bf.out] at bB bh;clear hs hp ht hif vs vp vt;obtain⟨w0,U0⟩:∃ x,Hid (((((w.alloc (.cells #[s.al,s.st,.slice A n c] 38)).alloc (.cells #[t.al,t.st,.slice C k c2] 38)).alloc (.cells #[p.al,.slice B m d,.slice B' m' d'] 31)).alloc (.cells #[(0:Int),(0:Int),(),(),.string ⟨#[]⟩,(0:Int)] 67)).alloc (.cells #[(0:Int),(),()] 31)=x):=⟨_,za rfl⟩;have aj:Ext w w0:=((((((dB _).alloc _).alloc _).alloc _).alloc _).alloc _).trans (gG U0.out);obtain⟨b1,b2,b3⟩:=zM ((((dB _).alloc _).alloc _).trans (gG U0.out));obtain⟨b8,b9⟩:=zH (gG U0.out);simp only [World.size_alloc] at b8 b9
 go_enter Tryz.func97,Tryz.ntmps97
 go_upto_region 1 with fail
 rw [U0.out] at *;have CS:=b1.cells;have CT:=b2.cells;have CP:=b3.cells;have dh:=b9.lt;have dg:w.heap.size<=w.heap.size+1+1+1:=oM;generalize w.heap.size+1+1+1=Z at *;have cB:=dB w0;go_upto_region 2 with (first
  |(go_at_call 174;refine (bk.out _ aj).mono ?_;rintro e w1 ⟨A,n,c,B,m,d,B',m',d',rfl,bg,b6⟩))
 have cK:=(eX w1 96 #[s.al,s.st,.slice A n c,p.al,.slice B m d,.slice B' m' d',L]).cell;go_upto_region 5 with fail
 obtain⟨bH,bR⟩:∃ bH,Hid (w1.heap.size=bH):=⟨_,rfl⟩;generalize U0:(w1.alloc _).alloc _=w2 at *;obtain⟨bi,bK,bT⟩:=Ext.x2_ U0;clear U0;rw [bR.out] at bK bT ⊢;clear cK;have V:=bg.ext bi;have a:=b6.trans bi;have di:=bT.lt;have bJ:=za (fun W (hW:Ext w2 W)=>zfs (c:=c) (d:=d) (d':=d') (V.ext hW));rw [bf.out] at bJ;have cq:=za (fun (R:Option Addr) (nr cr:Nat) (C:Option Addr) (nc cc:Nat) (rows cols:List ByteArray) W (hW:Ext w2 W) hT hI ai ah ao=>zbB (c:=c) (d:=d) (d':=d') (nr:=nr) (nc:=nc) (R:=R) (C:=C) (cr:=cr) (cc:=cc) (rows:=rows) (cols:=cols) (V.ext hW) hT hI ai ah ao);have co:=za (fun (R:Option Addr) (nr cr:Nat) (C:Option Addr) (nc cc:Nat) (rows cols:List ByteArray) (x:ByteArray) W (hW:Ext w2 W) hT hI ai ah ao hx=>zew (c:=c) (d:=d) (d':=d') (nr:=nr) (nc:=nc) (R:=R) (C:=C) (cr:=cr) (cc:=cc) (rows:=rows) (cols:=cols) (x:=x) (V.ext hW) hT hI ai ah ao hx);have bG:=bT.cells;have cm:=bK.cells;have cl:=fun W (hW:Ext w2 W)=>CS W (a.trans hW);have bF:=fun W (hW:Ext w2 W)=>CT W (a.trans hW);have ck:=fun W (hW:Ext w2 W)=>CP W (a.trans hW);have b5:=dB w2;clear cB CS CT CP;go_upto_region 6 with (first
  |(go_at_call 70;refine (bJ.out _ b5).mono ?_;intro e w3 hret;obtain⟨bw,nr,nc,R,cr,C,cc,rfl,ai,ah,bq⟩:=hret.fill (w0:=w2) (eA _);clear hret))
 go_wp2_with fail
 obtain⟨G,hG⟩:∃ G,Hid (w3.heap.size=G):=⟨_,rfl⟩;have df:w2.heap.size<=G:=by rw [← hG.out];exact bw.size
 generalize U0:((w3.alloc _).alloc _).alloc _=w6 at *;obtain⟨az,am,E,ae⟩:=Ext.x3_ U0;clear U0;rw [hG.out] at am E ae ⊢;have bj:=bw.trans az;have aL:TabM w2 w6 G aC:=⟨nr,nc,R,cr,C,cc,am,ai,ah,fun rs cs e=>⟨zg (bq rs cs e).1 az,zg (bq rs cs e).2 az⟩⟩;clear bq am bw az
 go_loopw [14] (fun fv wr=>∃ (o:Option (List ByteArray × List ByteArray)) (j:Nat) (x:Int) (X:Option Addr) (k1 d1:Nat) (X':Option Addr) (k1' d1':Nat),fv=.bool o.isSome∧j<=K∧Hid (zdM L (zo s p L) o)∧Hid (runT s t p L (K - j) j o=ag)∧TabM w2 wr G o∧Blk wr (G+1) 67 #[(2:Int),(0:Int),(),(),.string ⟨#[]⟩,j]∧Blk wr (G+1+1) 31 #[x,.slice X k1 d1,.slice X' k1' d1']∧Ext w2 wr) (fun _ wr=>K - roAt wr (G+1))
 case atStart=>exact⟨aC,0,0,none,0,0,none,0,0,rfl,eD _,bh,bB,aL,E,ae,bj⟩
 case round =>
  clear aL E ae bj;obtain⟨o,j,x,X,k1,d1,X',k1',d1',rfl,hj,cz,be,aL,E,ae,aU⟩:=hrel;have av:=E.cell;have aw:=ae.cell
  by_cases hgo:o.isSome=true∧j<K
  ·obtain⟨⟨⟨rs,cs⟩,rfl⟩,dj⟩:(∃ q,o=some q)∧j<K:=⟨Option.isSome_iff_exists.1 hgo.1,hgo.2⟩;clear hgo;obtain⟨hI,ao⟩:=cz.out rs cs rfl;have cR:(j:Int)<(K:Int):=oM;have an:=E.frozen;have a9:Blk (wr.setCell ⟨G+1,5,none⟩ (.int .i64 ((j:Int)+1))) (G+1) 67 #[.int .i64 2,.int .i64 0,.slice none 0 0,.slice none 0 0,.string ⟨#[]⟩,.int .i64 ((j:Int)+1)]:=by
    simpa using E.ab 5 (.int .i64 ((j:Int)+1))
   have br:Frm (fun b=>b=G+1) wr (wr.setCell ⟨G+1,5,none⟩ (.int .i64 ((j:Int)+1))):=eC wr _ 5 _;have ba:=ae.frm br oM;have bV:=aL.far E br oM dM;have aT:=aU.setCell (p:=⟨G+1,5,none⟩) (by dsimp only;omega) (.int .i64 ((j:Int)+1));go_upto_region 10 with fail
   have b0:=za (roAt_blk E);clear av aw an aL E ae aU br;generalize wr.setCell ⟨G+1,5,none⟩ (.int .i64 ((j:Int)+1))=wA at *;obtain⟨nr,nc,R,cr,C,cc,am,ai,ah,bW⟩:=bV;obtain⟨oR,oC⟩:=bW rs cs rfl;have a4:=za (show TabAt wA R nr C nc rs cs from ⟨_,_,_,_,eY oR,eY oC⟩);have bx:=am.cell;have bm:=bG wA aT;have bo:=za hI;have bd:=za ao;have a0:=za (zbj hI ao bg.lt);clear hI ao bW;go_upto_region 11 with (first
    |(go_at_call 71;refine (cq.out _ _ _ _ _ _ rs cs _ aT a4.out bo.out ai ah bd.out).mono ?_;rintro e wB ⟨Y,q1,e1,Y',I,D,rfl,aq,b7⟩))
   obtain⟨f,bc⟩:∃ f,Hid (zcx L (zo s p L) rs cs=f):=⟨_,rfl⟩;rw [bc.out] at aq a0 ⊢;generalize U0:wB.alloc _=wC at *;have ca:=Ext.al_ U0;have bN:=eR U0;have aO:=aq.ext ca;clear U0;have T:=b7.trans ca;have F:=ba.ext T;have a7:=a9.ext T;have a5:=am.ext T;have bA:=zg oR T;have bz:=zg oC T;have aw:=F.cell;have cw:=F.frozen;have cC:=bN.cell;have ap:=zau wC (G+1+1) (.int .i64 f.al) (.slice Y q1 e1) (.slice Y' I D);have aG:=zba F rfl (.int .i64 f.al) (.slice Y q1 e1) (.slice Y' I D);have a8:=a7.frm ap oM;have a6:=a5.frm ap oM;have cg:=zh bA ap (fun b hv e=>zw bA F dM hv e);have cf:=zh bz ap (fun b hv e=>zw bz F dM hv e);have ar:=aO.ai F ap dM;have aS:=((aT.trans T).frm ap (fun k hk e=>oM));have dl:=za (aT.trans b7).size;have dk:=za aT.size;clear F a7 a5 bA bz ap aO aq bN ba a9 am oR oC bx bm a4;go_upto_region 12 with fail
   generalize ((wC.setCell ⟨G+1+1,0,none⟩ f.al).setCell ⟨G+1+1,1,none⟩ (.slice Y q1 e1)).setCell ⟨G+1+1,2,none⟩ (.slice Y' I D)=wD at *;clear aw cw cC;have HJ:=za (ziQ (c:=c) (d:=d) (d':=d') (c2:=c2) (d1:=e1) (d1':=D) (V.ext aS) (cp.out wD (aj.trans (a.trans aS))) ar.reads Hv.out.2.2 a0.out);have bS:=za (judgeT_size (L:=L) Hv.out.1 Hv.out.2.1 Hv.out.2.2 a0.out);obtain⟨J,hJ⟩:∃ J,Hid (zbb s p t L f=J):=⟨_,rfl⟩;rw [hJ.out] at HJ bS;have aw:=aG.cell;have cu:=cm wD aS;have cv:=bF wD aS;go_upto_region 13 with (first
    |(go_at_call 175;refine HJ.out.mono (mQ fun wE au=>?_)))
   have g:=aS.trans au;have Q:=aG.ext au;have l:=a8.ext au;have ad:=a6.ext au;have a2:=zg cg au;have a1:=zg cf au;have U:=ar.ext au;clear aw cu cv aG a8 a6 cg cf ar HJ;have z:=za (show (if J.2=0 then (⟨0,f,⟨#[]⟩,j+1⟩:Vd) else if J.2=1 then ⟨1,noA,zR [s,t] p,j+1⟩ else runT s t p L (K - (j+1)) (j+1) (zaq L (zo s p L) rs cs J.1))=ag by
    rw [← be.out,show K - j=(K - (j+1))+1 by omega];show _=runT s t p L ((K - (j+1))+1) j (some (rs,cs));rw [runT,bc.out,hJ.out])
   by_cases hJ0:J.2=0
   ·have aN:=za (show ag=⟨0,f,⟨#[]⟩,j+1⟩ by rw [← z.out,if_pos hJ0]);have av:=l.cell;have an:=l.frozen;have u:Blk (wE.setCell ⟨G+1,0,none⟩ (0:Int)) (G+1) 67 #[.int .i64 0,.int .i64 0,.slice none 0 0,.slice none 0 0,.string ⟨#[]⟩,.int .i64 ((j:Int)+1)]:=by
     simpa using l.ab 0 (.int .i64 0)
    have bs:Frm (fun b=>b=G+1) wE (wE.setCell ⟨G+1,0,none⟩ (0:Int)):=eC wE _ 0 _;have S:=Q.frm bs oM;have aP:=U.ai l bs dM;have ak:=g.setCell (p:=⟨G+1,0,none⟩) (by dsimp only;omega) (.int .i64 0);clear z ad Q a2 a1 bs U l;go_upto_region 16 with fail
    generalize wE.setCell ⟨G+1,0,none⟩ (0:Int)=wF at *;clear av an hJ0;have bI:=za (zhe (c:=e1) (c':=D) aP.reads (zcp a0.out));have aw:=S.cell;go_upto_region 17 with (first
     |(go_at_call 119;refine bI.out.mono ?_;rintro e wG ⟨Z1,z1,y1,Z2,z2,y2,rfl,aQ,aa⟩;have av:=(u.ext aa).cell;have an:=(u.ext aa).frozen))
    have O:=u.ext aa;have af:=S.ext aa;have i:Frm (fun b=>b=G+1) wG (((wG.setCell ⟨G+1,1,none⟩ f.al).setCell ⟨G+1,2,none⟩ (.slice Z1 z1 y1)).setCell ⟨G+1,3,none⟩ (.slice Z2 z2 y2)):=((eC wG _ 1 _).trans (eC _ _ 2 _)).trans (eC _ _ 3 _);have y:Blk (((wG.setCell ⟨G+1,1,none⟩ f.al).setCell ⟨G+1,2,none⟩ (.slice Z1 z1 y1)).setCell ⟨G+1,3,none⟩ (.slice Z2 z2 y2)) (G+1) 67 #[.int .i64 0,.int .i64 f.al,.slice Z1 z1 y1,.slice Z2 z2 y2,.string ⟨#[]⟩,.int .i64 ((j:Int)+1)]:=by
     simpa using ((O.ab 1 (.int .i64 f.al)).ab 2 (.slice Z1 z1 y1)).ab 3 (.slice Z2 z2 y2)
    have H:=af.frm i oM;have aR:=(aQ.ai O i dM).less (show w.heap.size<=wF.heap.size by have:=ak.size;have:=a.size;have:=aj.size;omega);have ab:=(ak.trans aa).frm i (fun k hk e=>oM);clear av an aw u S O af i aP aQ bI;generalize ((wG.setCell ⟨G+1,1,none⟩ f.al).setCell ⟨G+1,2,none⟩ (.slice Z1 z1 y1)).setCell ⟨G+1,3,none⟩ (.slice Z2 z2 y2)=wH at *;have hxw:=aj.trans (a.trans ab);have hb8:=b8.ext (a.trans ab);have hb9':=b9.ext (a.trans ab);obtain⟨f1,f2,f3⟩:=zgv (v:=⟨0,f,⟨#[]⟩,j+1⟩) (x:=f.al) (X:=Y) (k1:=q1) (d1:=e1) (X':=Y') (k1':=I) (d1':=D) hxw hb8 hb9' rfl rfl oM aR;have F1:=za (zdb.cast aN.out f1.out.drew);clear f1;simp only [h7,jM] at F1 f2 f3;have F2:=za f2;have F3:=za f3;clear f2 f3;have k8:=hb8.cell;have z8:=hb8.frozen;have k9:=hb9'.cell;have z9:=hb9'.frozen;have hne1:G+1≠Z:=oH a.size;have hne2:G+1+1≠Z:=oH a.size;have bC:∀ W,Frm (fun b=>b=Z) wH W->∀ q,W.cell? ⟨G+1,q,none⟩=#[Value.int .i64 0,.int .i64 f.al,.slice Z1 z1 y1,.slice Z2 z2 y2,.string ⟨#[]⟩,.int .i64 ((j:Int)+1)][q]?:=fun W hW=>(y.frm hW hne1).cell;have bD:∀ W,Frm (fun b=>b=Z) wH W->∀ q,W.cell? ⟨G+1+1,q,none⟩=#[Value.int .i64 f.al,.slice Y q1 e1,.slice Y' I D][q]?:=fun W hW=>(H.frm hW hne2).cell;have hS0:Frm (fun b=>b=Z) wH wH.drew:=⟨rfl,rfl,rfl,eA _,fun _ _ _=>rfl⟩;have hf8:=za (zcX wH Z (.int .i64 0) (.int .i64 f.al) (.slice Z1 z1 y1) (.slice Z2 z2 y2) (.string ⟨#[]⟩) (.int .i64 ((j:Int)+1)));clear y H aR hb8 hb9' hxw hne1 hne2;go_wp2_with fail
    refine zbf (fun Y=>Frm (fun b=>b=Z) wH Y) [3] (zu.of [0,1,2,3]) kM kM kM kM kM (fun _ _ _ _ _ h=>h) hS0 ?_;refine zbr (v:=?_) rfl rfl rfl rfl (fun X hX=>?_) ?_
    rotate_left
    focus (go_simp<;>with_reducible rfl)
    refine pT ?_;refine zbr (v:=?_) rfl rfl rfl rfl (fun X hX=>?_) ?_
    rotate_left
    focus (go_simp<;>with_reducible rfl)
    refine pT ?_;refine ze fun K hK=>?_;go_simp;refine hK.out _ _ hf8.out.drew ?_;refine pT ?_;refine zb fun K hK=>?_;go_simp;refine hK.out _ _ ?_;refine zf ?_;go_wp2_with fail
    have cf2:=F2.out.cell;have cf3:=F3.out.cell;exact bodyPost_ret (v:=.tuple #[.agg #[(0:Int),f.al,.slice Z1 z1 y1,.slice Z2 z2 y2,.string ⟨#[]⟩,((j:Int)+1:Int)],.agg #[f.al,.slice Y q1 e1,.slice Y' I D]]) (by simp [results,Tryz.results97,go_sem,cf2,cf3]) rfl F1.out
   ·by_cases hJ1:J.2=1
    ·have aN:=za (show ag=⟨1,noA,zR [s,t] p,j+1⟩ by rw [← z.out,if_neg hJ0,if_pos hJ1]);have HP:=za (bL.out wE (aj.trans (a.trans g)));have cS:=cl wE g;have cT:=bF wE g;have cP:∀ (v:Array Value) (q:Nat),(wE.alloc (.cells v 38)).cell? ⟨w.heap.size+1+1,q,none⟩=_:=fun v q=>ck _ (g.trans ((dB wE).alloc _)) q;clear hJ0 z ad a2 a1 U;go_upto_region 20 with (first
      |(go_at_call 147;refine HP.out.mono (mQ fun wF ak=>?_);clear cS cT cP))
     have u:=l.ext ak;have S:=Q.ext ak;have cb:=g.trans ak;have av:=u.cell;have an:=u.frozen;clear HP l Q;go_upto_region 22 with fail
     have i:Frm (fun b=>b=G+1) wF ((wF.setCell ⟨G+1,0,none⟩ (1:Int)).setCell ⟨G+1,4,none⟩ (.string (zR [s,t] p))):=(eC wF _ 0 _).trans (eC _ _ 4 _);have y:Blk ((wF.setCell ⟨G+1,0,none⟩ (1:Int)).setCell ⟨G+1,4,none⟩ (.string (zR [s,t] p))) (G+1) 67 #[.int .i64 1,.int .i64 0,.slice none 0 0,.slice none 0 0,.string (zR [s,t] p),.int .i64 ((j:Int)+1)]:=by
      simpa using (u.ab 0 (.int .i64 1)).ab 4 (.string (zR [s,t] p))
     have H:=S.frm i oM;have ab:=cb.frm i (fun k hk e=>oM);clear av an u S i hJ1;generalize (wF.setCell ⟨G+1,0,none⟩ (1:Int)).setCell ⟨G+1,4,none⟩ (.string (zR [s,t] p))=wH at *;have hxw:=aj.trans (a.trans ab);have hb8:=b8.ext (a.trans ab);have hb9':=b9.ext (a.trans ab);obtain⟨f1,f2,f3⟩:=zgv (v:=⟨1,noA,zR [s,t] p,j+1⟩) (A:=none) (n:=0) (c:=0) (A':=none) (n':=0) (c':=0) (x:=f.al) (X:=Y) (k1:=q1) (d1:=e1) (X':=Y') (k1':=I) (d1':=D) hxw hb8 hb9' rfl rfl oM (⟨⟨[],World.ownsRow_nil _ _ _ _,zy.nil _ _⟩,rfl,World.ownsRow_nil _ _ _ _,rfl⟩:zY wH w.heap.size none 0 0 none 0 0 noA);have F1:=za (zdb.cast aN.out f1.out.drew);clear f1;simp only [noA,h7,jM] at F1 f2 f3;have F2:=za f2;have F3:=za f3;clear f2 f3;have k8:=hb8.cell;have z8:=hb8.frozen;have k9:=hb9'.cell;have z9:=hb9'.frozen;have hne1:G+1≠Z:=oH a.size;have hne2:G+1+1≠Z:=oH a.size;have bC:∀ W,Frm (fun b=>b=Z) wH W->∀ q,W.cell? ⟨G+1,q,none⟩=#[Value.int .i64 1,.int .i64 0,.slice none 0 0,.slice none 0 0,.string (zR [s,t] p),.int .i64 ((j:Int)+1)][q]?:=fun W hW=>(y.frm hW hne1).cell;have bD:∀ W,Frm (fun b=>b=Z) wH W->∀ q,W.cell? ⟨G+1+1,q,none⟩=#[Value.int .i64 f.al,.slice Y q1 e1,.slice Y' I D][q]?:=fun W hW=>(H.frm hW hne2).cell;have hS0:Frm (fun b=>b=Z) wH wH.drew:=⟨rfl,rfl,rfl,eA _,fun _ _ _=>rfl⟩;have hf8:=za (zcX wH Z (.int .i64 1) (.int .i64 0) (.slice none 0 0) (.slice none 0 0) (.string (zR [s,t] p)) (.int .i64 ((j:Int)+1)));clear y H hb8 hb9' hxw hne1 hne2;go_wp2_with fail
     refine zbf (fun Y=>Frm (fun b=>b=Z) wH Y) [3] (zu.of [0,1,2,3]) kM kM kM kM kM (fun _ _ _ _ _ h=>h) hS0 ?_;refine zbr (v:=?_) rfl rfl rfl rfl (fun X hX=>?_) ?_
     rotate_left
     focus (go_simp<;>with_reducible rfl)
     refine pT ?_;refine zbr (v:=?_) rfl rfl rfl rfl (fun X hX=>?_) ?_
     rotate_left
     focus (go_simp<;>with_reducible rfl)
     refine pT ?_;refine ze fun K hK=>?_;go_simp;refine hK.out _ _ hf8.out.drew ?_;refine pT ?_;refine zb fun K hK=>?_;go_simp;refine hK.out _ _ ?_;refine zf ?_;go_wp2_with fail
     have cf2:=F2.out.cell;have cf3:=F3.out.cell;exact bodyPost_ret (v:=.tuple #[.agg #[(1:Int),(0:Int),(),(),.string (zR [s,t] p),((j:Int)+1:Int)],.agg #[f.al,.slice Y q1 e1,.slice Y' I D]]) (by simp [results,Tryz.results97,go_sem,cf2,cf3]) rfl F1.out
    ·have e0:(J.2==0)=false:=by simpa using hJ0
     have e2:(J.2==1)=false:=by simpa using hJ1
     have bu:=za (show runT s t p L (K - (j+1)) (j+1) (zaq L (zo s p L) rs cs J.1)=ag by
      have:=z.out;rw [if_neg hJ0,if_neg hJ1] at this;exact this)
     clear hJ0 hJ1 z;have bm:=bG wE g;have bx:=ad.cell;have bl:=za (show TabAt wE R nr C nc rs cs from ⟨_,_,_,_,eY a2,eY a1⟩);go_upto_region 24 with (first
      |(go_at_call 77;refine (co.out _ _ _ _ _ _ rs cs J.1 _ g bl.out bo.out ai ah bd.out (oH bS.out)).mono ?_;intro e wF hret;obtain⟨ak,aW,aV,R2,aI,C2,aH,rfl,bY,bX,bp⟩:=hret.fill (w0:=w2) g.size;clear hret))
     have b4:=za (zdM.ao bo.out J.1);generalize zaq L (zo s p L) rs cs J.1=oL at *;generalize U0:wF.alloc _=wG at *;have aa:=Ext.al_ U0;have bO:=eR U0;clear U0;have aA:=ak.trans aa;have M:=ad.ext aA;have O:=l.ext aA;have af:=Q.ext aA;have cd:=g.trans aA;have cD:=bO.cell;have ce:=M.cell;have bQ:=M.frozen;have i:Frm (fun b=>b=G) wG ((wG.setCell G (.slice R2 aW aI)).setCell ⟨G,1,none⟩ (.slice C2 aV aH)):=(eC wG _ 0 _).trans (eC _ _ 1 _);have bU:TabM w2 ((wG.setCell G (.slice R2 aW aI)).setCell ⟨G,1,none⟩ (.slice C2 aV aH)) G oL:=
      ⟨aW,aV,R2,aI,C2,aH,by simpa using (M.ab 0 (.slice R2 aW aI)).ab 1 (.slice C2 aV aH),bY,bX,fun rs' cs' e=>by
       have h1:=zg (bp rs' cs' e).1 aa;have h2:=zg (bp rs' cs' e).2 aa;exact⟨zh h1 i (fun b hv e'=>zw h1 M dM hv e'),zh h2 i (fun b hv e'=>zw h2 M dM hv e')⟩⟩
     have y:=O.frm i oM;have H:=af.frm i oM;have ab:=cd.frm i (fun k hk e=>oM);clear bm bx ad l Q a2 a1 U M O af i bO bp;go_upto_region 25 with fail
     generalize (wG.setCell G (.slice R2 aW aI)).setCell ⟨G,1,none⟩ (.slice C2 aV aH)=wH at *;clear cD ce bQ;have bZ:((j:Int)+1)=((j+1:Nat):Int):=oM;rw [bZ] at y;have bt:=za (roAt_blk y);clear bZ;go_wp2_with fail
     go_roundw
     case rel=>exact⟨oL,j+1,f.al,Y,q1,e1,Y',I,D,rfl,oM,b4,bu,bU,y,H,ab⟩
     case measure=>have h1:=b0.out;have h2:=bt.out;omega
  ·have aN:=za (show ag=⟨2,noA,⟨#[]⟩,j⟩ by
    rw [← be.out];exact runT_end hgo)
   have hb8:=(b8.ext (a.trans aU));have hb9':=(b9.ext (a.trans aU));have hon:zY wr w.heap.size none 0 0 none 0 0 noA:=⟨⟨[],World.ownsRow_nil _ _ _ _,zy.nil _ _⟩,rfl,World.ownsRow_nil _ _ _ _,rfl⟩;have hflag:(o.isSome&&decide ((j:Int)<(K:Int)))=false:=by
    rw [Bool.eq_false_iff];intro h;simp only [eG,decide_eq_true_eq] at h;exact hgo ⟨h.1,oM⟩
   have hxw:=aj.trans (a.trans aU);have hd:Ext wr wr.drew:=(dB wr).drew;obtain⟨f1,f2,f3⟩:=zgv (v:=⟨2,noA,⟨#[]⟩,j⟩) (x:=x) (X:=X) (k1:=k1) (d1:=d1) (X':=X') (k1':=k1') (d1':=d1') hxw hb8 hb9' rfl rfl oM hon;have F1:=za (zdb.cast aN.out f1.out.drew);clear f1;simp only [noA] at F1 f2 f3;have F2:=za f2;have F3:=za f3;clear f2 f3;have k8:=hb8.cell;have z8:=hb8.frozen;have k9:=hb9'.cell;have z9:=hb9'.frozen;have dm:=aj.size;have hne1:G+1≠Z:=oH a.size;have hne2:G+1+1≠Z:=oH a.size;have bC:∀ W,Frm (fun b=>b=Z) wr W->∀ q,W.cell? ⟨G+1,q,none⟩=#[Value.int .i64 2,.int .i64 0,.slice none 0 0,.slice none 0 0,.string ⟨#[]⟩,.int .i64 j][q]?:=fun W hW=>(E.frm hW hne1).cell;have bD:∀ W,Frm (fun b=>b=Z) wr W->∀ q,W.cell? ⟨G+1+1,q,none⟩=#[Value.int .i64 x,.slice X k1 d1,.slice X' k1' d1'][q]?:=fun W hW=>(ae.frm hW hne2).cell;have hS0:Frm (fun b=>b=Z) wr wr.drew:=⟨rfl,rfl,rfl,eA _,fun _ _ _=>rfl⟩;have hf8:=za (zcX wr (Z) (.int .i64 2) (.int .i64 0) (.slice none 0 0) (.slice none 0 0) (.string ⟨#[]⟩) (.int .i64 j));cases ho:o.isSome
   ·have Ho:=za ho;rw [ho] at hflag;exact yV13a1
   ·have cU:¬ ((j:Int)<(K:Int)):=fun h=>hgo ⟨ho,oM⟩;have Ho:=za ho;exact yV13a1
end
def zih (w:World) (v:Vd) (e:Ending) (w':World):Prop:=
 ∃ (A:Option Addr) (n c:Nat) (A':Option Addr) (n' c':Nat),
  e=.returned (.agg #[v.code,v.asm.al,.slice A n c,.slice A' n' c',v.tr,v.ro])∧zY w' w.heap.size A n c A' n' c' v.asm∧Ext w w'
section
variable {w:World} {lo hi n c lo1 hi1 m d m' d' lo2 hi2 k c2:Nat} {A B B' C:Option Addr} {s t:Sys} {p:Aut}
theorem zcU {v:Vd} (HR:Hid (∀ W,Ext w W->Calls Tryz.prog 97 #[.agg #[s.al,s.st,.slice A n c],.agg #[t.al,t.st,.slice C k c2],.agg #[p.al,.slice B m d,.slice B' m' d'],(12:Int)] W (zdb W v))) :
  Calls Tryz.prog 44 #[.agg #[s.al,s.st,.slice A n c],.agg #[t.al,t.st,.slice C k c2],.agg #[p.al,.slice B m d,.slice B' m' d']] w
   (zih w v):=by
 obtain⟨J,U0⟩:∃ x,Hid ((((w.alloc (.cells #[s.al,s.st,.slice A n c] 38)).alloc (.cells #[t.al,t.st,.slice C k c2] 38)).alloc (.cells #[p.al,.slice B m d,.slice B' m' d'] 31)).alloc (.cells #[(0:Int),(0:Int),(),(),.string ⟨#[]⟩,(0:Int)] 67)=x):=⟨_,za rfl⟩;have j:Ext w J:=(((((dB _).alloc _).alloc _).alloc _).alloc _).trans (gG U0.out);obtain⟨M,O,Q⟩:=zM (((dB _).alloc _).trans (gG U0.out));have I:=eR U0.out;simp only [World.size_alloc] at I
 go_enter Tryz.func44,Tryz.ntmps44
 go_upto_region 1 with fail
 rw [U0.out] at *;have S:=M.cell;have D:=O.cell;have T:=Q.cell;go_upto_region 2 with (first
  |(go_at_call 97;refine (HR.out J j).mono ?_;rintro e H ⟨b,h,k1,f,i,g,x,X,U,d1,X',G,d1',rfl,ho,y⟩;clear S D T))
 have R:=(eX H 67 #[v.code,v.asm.al,.slice b h k1,.slice f i g,v.tr,v.ro]).ext ((dB _).alloc (.cells #[x,.slice X U d1,.slice X' G d1'] 31));generalize U0:(H.alloc _).alloc _=L at *;have l:=((dB H).alloc (.cells #[v.code,v.asm.al,.slice b h k1,.slice f i g,v.tr,v.ro] 67)).trans (Ext.al_ U0);clear U0;have a:=I.ext (y.trans l);have Z:=R.cell;have Y:=a.cell;have V:=a.frozen;have q:=ho.ext l;have F:=zcX L (w.heap.size+1+1+1) (.int .i64 v.code) (.int .i64 v.asm.al) (.slice b h k1) (.slice f i g) (.string v.tr) (.int .i64 v.ro);have o:Blk ((((((L.setCell ⟨w.heap.size+1+1+1,0,none⟩ v.code).setCell ⟨w.heap.size+1+1+1,1,none⟩ v.asm.al).setCell ⟨w.heap.size+1+1+1,2,none⟩ (.slice b h k1)).setCell ⟨w.heap.size+1+1+1,3,none⟩ (.slice f i g)).setCell ⟨w.heap.size+1+1+1,4,none⟩ v.tr).setCell ⟨w.heap.size+1+1+1,5,none⟩ v.ro) (w.heap.size+1+1+1) 67 #[.int .i64 v.code,.int .i64 v.asm.al,.slice b h k1,.slice f i g,.string v.tr,.int .i64 v.ro]:=by
  simpa using (((((a.ab 0 (.int .i64 v.code)).ab 1 (.int .i64 v.asm.al)).ab 2 (.slice b h k1)).ab 3 (.slice f i g)).ab 4 (.string v.tr)).ab 5 (.int .i64 v.ro)
 have r:=(q.ai a F dM).less j.size;have z:=(j.trans (y.trans l)).frm F (fun k hk e=>oM);have u:=za (show zih w v (.returned (.agg #[v.code,v.asm.al,.slice b h k1,.slice f i g,v.tr,v.ro])) _ from ⟨b,h,k1,f,i,g,rfl,r,z⟩);have E:=za o;clear a q ho r z F o;go_wp2_with fail
 have E:=E.out.cell;exact bodyPost_ret (v:=.agg #[v.code,v.asm.al,.slice b h k1,.slice f i g,v.tr,v.ro]) (by simp [results,Tryz.results44,go_sem,E]) rfl u.out
theorem zhc (hs:zN w lo hi A n s)(hp:zC w lo1 hi1 B m B' m' p)(ht:zN w lo2 hi2 C k t)(hif:iface s p t=(L:Int))(hn:n<=1000000)(hhi:hi<=w.heap.size) :
  Calls Tryz.prog 44 #[.agg #[s.al,s.st,.slice A n c],.agg #[t.al,t.st,.slice C k c2],.agg #[p.al,.slice B m d,.slice B' m' d']] w
   (zih w (runT s t p L 12 0 ((zO L (zo s p L) [⟨#[]⟩] 11 [⟨#[]⟩]).map fun r=>(r,[⟨#[]⟩])))):=
 zcU (za (fun W (hW:Ext w W)=>spec_l12Run (K:=12) (hs.ext hW) (hp.ext hW) (ht.ext hW) hif hn (eJ hhi hW.size) oM))
end
theorem runT_size (hL:L<64)(hst:zA [s,t]=true)(hp:zj p=true) (f:Nat):∀ (k:Nat) (o:Option (List ByteArray × List ByteArray)),zdM L (zo s p L) o->(runT s t p L f k o).asm.size<=1048576∧(runT s t p L f k o).tr.size<=4000:=by
 induction f with
 |zero=>exact fun k o _=>⟨by show noA.size<=_;decide,eD _⟩
 |succ f ih =>
  intro k o ho
  match o with
  |none=>exact⟨by show noA.size<=_;decide,eD _⟩
  |some (rs,cs) =>
   obtain⟨b,a⟩:=ho rs cs rfl;rw [runT];split
   ·exact⟨zcp (zbj b a hL),eD _⟩
   ·split
    ·refine⟨by show noA.size<=_;decide,?_⟩;have h:=(zcw hst hp).2;have c:16 ^ [s,t].length*12=3072:=sM;show (zR [s,t] p).size<=4000;omega
    ·exact ih _ _ (zdM.ao b _)
def mk1 (k n:Nat):List Int:=(marks k n).map fun n:Nat=>(n:Int)
def mkL (k:Nat):List (List Int)->List (List Int)
 |[]=>[]
 |l :: r=>mk1 k l.length :: mkL (k+l.length) r
def mkBs (k n:Nat):List Bool:=(fE n).map fun j=>(k+j) % 3==0
def mkA (k:Nat) (a:Aut):Aut:=⟨a.al,mkL k a.next,mkBs (k+tot a.next) a.acc.length⟩
theorem tot_cons (l:List Int) (r:List (List Int)):tot (l :: r)=l.length+tot r:=by simp [tot]
theorem zhT (k n:Nat):(mk1 k n).length=n:=by simp [mk1,zfX]
theorem mk1_nats (k n:Nat):zU (marks k n)=ints (mk1 k n):=by simp [mk1,zU,ints]
theorem zem (k:Nat) (ls:List (List Int)):(mkL k ls).length=ls.length:=by
 induction ls generalizing k with
 |nil=>rfl
 |cons l r ih=>simp [mkL,ih]
theorem mkL_get (h:ls[j]?=some l):(mkL k ls)[j]?=some (mk1 (k+tot (ls.take j)) l.length):=by
 induction ls generalizing k j with
 |nil=>simp at h
 |cons a r ih =>
  cases j with
  |zero=>simp at h;subst h;simp [mkL,tot]
  |succ j =>
   have:=ih (k:=k+a.length) (j:=j) (by simpa using h);rw [mkL,List.getElem?_cons_succ,this,List.take_succ_cons,tot_cons,fV]
theorem zeH (k n:Nat):(mkBs k n).length=n:=by simp [mkBs]
theorem mkBs_get (h:j<n):(mkBs k n)[j]?=some ((k+j) % 3==0):=by simp [mkBs,h]
theorem zy.ab {w':World}      (h:zy w base rows ls)(hr:rows[j]?=some (.slice A l.length c))
  (hf:Frm (blk A) w w') (zjc:w'.ownsRow base 3 1 (.slice A l.length c) l.length (ints l)):zy w' base rows (ls.set j l):=by
 have d:j<rows.length:=(List.getElem?_eq_some_iff.1 hr).1;refine⟨by simp [h.1],fun i row m hi hm=>?_,h.2.2⟩
 by_cases hij:i=j
 ·subst hij;rw [hr] at hi;obtain rfl:=Option.some.inj hi;rw [gN (by rw [← h.1];exact d)] at hm;obtain rfl:=Option.some.inj hm;exact zjc
 ·rw [fN (fun e=>hij e.symm)] at hm;refine zh (h.2.1 i row m hi hm) hf (fun b hb hS=>?_);obtain⟨a,rfl,rfl⟩:=hS;exact h.2.2 i j row _ a.block hi hr hij hb rfl
def OwnLLh (w:World) (base hi:Nat) (v:Value) (ls:List (List Int)):Prop:=
 ∃ rows,w.ownsRow base 128 1 v ls.length rows∧zy w base rows ls∧∀ (i:Nat) (row:Value) (b:Nat),rows[i]?=some row->row.ownBlock=some b->b<hi
def zgn (w:World) (base hi:Nat) (A:Option Addr) (n c:Nat) (A':Option Addr) (n' c':Nat) (a:Aut):Prop:=
 OwnLLh w base hi (.slice A n c) a.next∧(∀ b,(Value.slice A n c).ownBlock=some b->b<hi)∧n=a.next.length∧w.ownsRow base 4 1 (.slice A' n' c') n' (zS a.acc)∧(∀ b,(Value.slice A' n' c').ownBlock=some b->b<hi)∧n'=a.acc.length
section
variable {w w':World} {base hi n c n' c':Nat} {A A':Option Addr} {a:Aut}
theorem zY.high (h:zY w base A n c A' n' c' a):zgn w base w.heap.size A n c A' n' c' a:=by
 obtain⟨⟨d,f,g⟩,k,j,m⟩:=h;exact⟨⟨d,f,g,fun i row b hr hb=>by
  obtain⟨l,_,ho⟩:=g.row hr;exact (ho.lt b hb).2⟩,fun b hb=>(f.lt b hb).2,k,j,fun b hb=>(j.lt b hb).2,m⟩
theorem zgn.own (h:zgn w base hi A n c A' n' c' a):zY w base A n c A' n' c' a:=by
 obtain⟨⟨b,d,f,_⟩,_,g,i,_,j⟩:=h;exact⟨⟨b,d,f⟩,g,i,j⟩
theorem zgn.frm (h:zgn w base hi A n c A' n' c' a)(hb:Frm S w w')(hS:∀ b,base<=b->b<hi->¬ S b):zgn w' base hi A n c A' n' c' a:=by
 obtain⟨⟨d,f,g,k⟩,m,p,j,o,q⟩:=h;exact⟨⟨d,zh f hb (fun b hb=>hS b (f.lt b hb).1 (m b hb)),g.frm hb (fun i row b hr hb=>by
  obtain⟨l,_,ho⟩:=g.row hr;exact hS b (ho.lt b hb).1 (k i row b hr hb)),k⟩,m,p,zh j hb (fun b hb=>hS b (j.lt b hb).1 (o b hb)),o,q⟩
theorem zgn.ext (h:zgn w base hi A n c A' n' c' a)(hb:Ext w w'):zgn w' base hi A n c A' n' c' a:=h.frm hb (fun _ _ _ h=>h)
end
def rblk (rows:List Value) (b:Nat):Prop:=∃ (i:Nat) (row:Value),rows[i]?=some row∧row.ownBlock=some b
theorem set_mid {α:Type} {l:List α}  {x:α}(hl:j<l.length):(∀ i,i<j->(l.set j x)[i]?=l[i]?)∧(l.set j x)[j]?=some x∧∀ i,j<i->(l.set j x)[i]?=l[i]?:=
 ⟨fun i hi=>fN oM,gN hl,fun i hi=>fN oM⟩
theorem ziJ (hv:w.ownsRow base 128 1 (.slice A n c) n rows)(hrows:zy w base rows ls)(hk:k+tot ls<=4611686018427387904) :
  Calls Tryz.prog 66 #[.slice A n c,k] w fun e w'=>e=.returned (.int .i64 (k+tot ls:Nat))∧w'.ownsRow base 128 1 (.slice A n c) n rows∧zy w' base rows (mkL k ls)∧Frm (rblk rows) w w':=by
 have S:=(eY hv).len;have s:=za (show rows.length=n by have:=hv.1;omega);have B:=za (show ls.length=n by have:=hrows.1;have:=s.out;omega);have y:=za (fun j=>zcd ls j)
 go_enter Tryz.func66,Tryz.ntmps66
 go_wp2
 go_loopw [1,5] (fun v i wr=>∃ (j t:Nat) (d:List (List Int)),j<=n∧i=.int .i64 j∧v=.int .i64 (k+t:Nat)∧Hid (t=tot (ls.take j))∧k+t<=4611686018427387904∧wr.ownsRow base 128 1 (.slice A n c) n rows∧zy wr base rows d∧Hid ((∀ i,i<j->d[i]?=(mkL k ls)[i]?)∧∀ i,j<=i->d[i]?=ls[i]?)∧Frm (rblk rows) w wr) (fun _ i _=>n - (intOf i).toNat)
 case atStart=>exact⟨0,0,ls,eD _,rfl,rfl,za (by simp [tot]),oM,hv,hrows,za ⟨fun i hi=>absurd hi oM,fun i _=>rfl⟩,Frm.refl _ _⟩
 case round =>
  obtain⟨j,t,d,hj,rfl,rfl,I,Q,o,g,f,O⟩:=hrel;clear hv hrows
  by_cases hlt:j<n
  ·obtain⟨Z,u,rfl,_,_,L,hc⟩:=(eY o).one hlt;obtain⟨l,R,m⟩:=g.row L.out;obtain⟨Y,ck,rfl⟩:=zi m;have z:=za (show ls[j]?=some l by rw [← f.out.2 j (eA _)];exact R);have D:=za (show tot (ls.take (j+1))=t+l.length by rw [zbk z.out,I.out]);have H:k+t+l.length<=4611686018427387904:=by have:=y.out (j+1);have:=D.out;omega
   have q:=za (show d.length=n by have:=g.1;have:=s.out;omega);go_wp2_with (go_at_call 124;refine (markIntS_any (k:=k+t) m H).mono ?_;rintro e X ⟨rfl,F,r⟩)
   rw [mk1_nats] at F;have h:(mk1 (k+t) l.length).length=l.length:=zhT _ _;have C:=g.ab (l:=mk1 (k+t) l.length) (by rw [h];exact L.out) r (by rw [h];exact F);have G:Frm (rblk rows) wr X:=r.mono (fun b _ hb=>by
    obtain⟨a,rfl,rfl⟩:=hb;exact⟨j,_,L.out,rfl⟩)
   have E:=zh o r (fun b hb hS=>by
    obtain⟨a,rfl,rfl⟩:=hS;exact zaP m o dM rfl hb)
   go_roundw
   case rel =>
    refine⟨j+1,t+l.length,_,oM,gM,gM,za (by rw [D.out]),oM,E,C,za ?_,O.trans G⟩;obtain⟨T,U,V⟩:=set_mid (x:=mk1 (k+t) l.length) (show j<d.length by rw [q.out];exact hlt);refine⟨fun i hi=>?_,fun i hi=>?_⟩
    ·rcases fK i j with p|p
     ·rw [T i p,f.out.1 i p]
     ·obtain rfl:i=j:=oM;rw [U,mkL_get z.out,← I.out]
    ·rw [V i oM,f.out.2 i oM]
   case measure=>simp [intOf];omega
  ·obtain rfl:n=j:=oM;have q:=za (show d.length=n by have:=g.1;have:=s.out;omega);have M:d=mkL k ls:=by
    apply List.ext_getElem?;intro i;rcases fK i n with p|p
    ·exact f.out.1 i p
    ·rw [eP (by rw [q.out];exact p),eP (by rw [zem,B.out];exact p)]
   have J:=za (show t=tot ls by rw [I.out,eE (by rw [B.out];exact eA _)]);rw [M] at g;go_wp2;go_ret;exact⟨zG (oH J.out),o,g,O⟩
theorem mod3 (k j:Nat):(((k:Int)+(j:Int)) % 3==0)=((k+j) % 3==0):=by
 by_cases h:(k+j) % 3=0
 ·have a:((k:Int)+(j:Int)) % 3=0:=oM;rw [beq_iff_eq.2 h,beq_iff_eq.2 a]
 ·have a:¬ ((k:Int)+(j:Int)) % 3=0:=oM;rw [beq_eq_false_iff_ne.2 h,beq_eq_false_iff_ne.2 a]
theorem ziG {xs:List Value}  (h:w.ownsRow base 4 1 (.slice A n c) n xs)(hk:k+n<=4611686018427387904) :
  Calls Tryz.prog 67 #[.slice A n c,k] w fun e w'=>e=.returned (.int .i64 (k+n:Nat))∧w'.ownsRow base 4 1 (.slice A n c) n (zS (mkBs k n))∧Frm (blk A) w w':=by
 have o:=za h.1
 go_enter Tryz.func67,Tryz.ntmps67
 go_wp2
 go_loopw [1,5] (fun v i wr=>∃ j:Nat,j<=n∧i=.int .i64 j∧v=.int .i64 (k+j:Nat)∧∃ a:List Value,Hid (a.length=n - j)∧wr.ownsRow base 4 1 (.slice A n c) n (zS (mkBs k j)++a)∧Frm (blk A) w wr) (fun _ i _=>n - (intOf i).toNat)
 case atStart=>exact⟨0,eD _,rfl,rfl,xs,by unfold Hid;rw [o.out];omega,by simpa [zS,mkBs] using h,Frm.refl _ _⟩
 case round =>
  obtain⟨j,D,rfl,rfl,a,b,d,s⟩:=hrel
  by_cases hlt:j<n
  ·obtain⟨g,rfl,C,_⟩:=zao d oM;obtain⟨E,y⟩:=zab d j oM;have u:=d.frozenAt j;have m:=d.stored j (.bool ((k+j) % 3==0));have f:(zS (mkBs k j)++a).set j (.bool ((k+j) % 3==0))=zS (mkBs k (j+1))++a.drop 1:=by
    have t:(zS (mkBs k j)).length=j:=by rw [zaO,zeH]
    match a,b.out with
    |[],hr=>simp at hr;omega
    |x :: r,_ =>
     rw [List.set_append_right _ _ oM,t,Nat.sub_self,mkBs,mkBs,List.range_succ,List.map_append];simp [zS]
   rw [f] at m;have l:=za m;have q:=mod3 k j;have B:(k:Int)+(j:Int)<=4611686018427387904:=oM;have z:0<=(k:Int)+(j:Int):=oM;clear f m;rw [← q] at l;clear q;go_wp2;go_roundw
   case rel=>exact⟨j+1,oM,gM,gM,a.drop 1,by have:=b.out;unfold Hid;rw [iE];omega,l.out.1,s.cell (p:=⟨g,j,none⟩) ⟨⟨g,0,none⟩,rfl,rfl⟩ _⟩
   case measure=>simp [intOf];omega
  ·obtain rfl:n=j:=oM;obtain rfl:a=[]:=List.eq_nil_of_length_eq_zero (oH b.out);go_wp2;go_ret;exact⟨rfl,by simpa using d,s⟩
theorem ziy (h:Reads w lo hi 1 A n (zS (mkBs k n)))(hk:k+n<=4611686018427387904) :
  Calls Tryz.prog 126 #[.slice A n c,k] w fun e w'=>e=.returned (.int .i64 (k+n:Nat))∧w=w':=by
 have o:=h.len
 go_enter Tryz.func126,Tryz.ntmps126
 go_wp2
 go_loop [1,5] (fun v i=>∃ j:Nat,j<=n∧i=.int .i64 j∧v=.int .i64 (k+j:Nat)) (fun _ i=>n - (intOf i).toNat)
 case atStart=>exact⟨0,eD _,rfl,rfl⟩
 case round =>
  obtain⟨j,m,rfl,rfl⟩:=hrel
  by_cases hlt:j<n
  ·obtain⟨f,x,rfl,_,_,d,a⟩:=h.bool hlt;obtain rfl:x=((k+j) % 3==0):=by
    have:=d.out;rw [mkBs_get hlt] at this;exact (Option.some.inj this).symm
   rw [← mod3 k j] at a;have l:(k:Int)+(j:Int)<=4611686018427387904:=oM;have g:0<=(k:Int)+(j:Int):=oM;have b:((((k:Int)+(j:Int)) % 3==0) != (((k:Int)+(j:Int)) % 3==0))=false:=sM;go_wp2
   go_round
   case rel=>exact⟨j+1,oM,gM,gM⟩
   case measure=>simp [intOf];omega
  ·obtain rfl:n=j:=oM;go_wp2;go_ret;exact⟨rfl,rfl⟩
theorem ziA (h:zax w lo hi A n (mkL k ls))(hk:k+tot ls<=4611686018427387904) :
  Calls Tryz.prog 125 #[.slice A n c,k] w fun e w'=>e=.returned (.int .i64 (k+tot ls:Nat))∧w=w':=by
 have y:=h.len;have d:=za (show ls.length=n by rw [h.1,zem]);have b:=za (fun j=>zcd ls j)
 go_enter Tryz.func125,Tryz.ntmps125
 go_wp2
 go_loop [1,5] (fun v i=>∃ j t:Nat,j<=n∧i=.int .i64 j∧v=.int .i64 (k+t:Nat)∧Hid (t=tot (ls.take j))∧k+t<=4611686018427387904) (fun _ i=>n - (intOf i).toNat)
 case atStart=>exact⟨0,0,eD _,rfl,rfl,za (by simp [tot]),oM⟩
 case round =>
  obtain⟨j,t,D,rfl,rfl,p,u⟩:=hrel
  by_cases hlt:j<n
  ·obtain⟨l,r⟩:∃ l,Hid (ls[j]?=some l):=⟨_,za (dC (by rw [d.out];exact hlt))⟩;obtain⟨B,z,C,m,rfl,_,_,x,g,a⟩:=h.row hlt;obtain rfl:m=mk1 (k+t) l.length:=by
    have:=x.out;rw [mkL_get r.out,← p.out] at this;exact (Option.some.inj this).symm
   rw [zhT] at g a;rw [← mk1_nats] at a;have f:=za (show tot (ls.take (j+1))=t+l.length by rw [zbk r.out,p.out]);have o:k+t+l.length<=4611686018427387904:=by have:=b.out (j+1);have:=f.out;omega
   have s:¬ (((k+t+l.length:Nat):Int)<0):=oM;go_wp2_with (go_at_call 206;refine (heldIntS_any (k:=k+t) a o).mono ?_;rintro e E ⟨rfl,rfl⟩)
   go_round
   case rel=>exact⟨j+1,t+l.length,oM,gM,gM,za (by rw [f.out]),oM⟩
   case measure=>simp [intOf];omega
  ·obtain rfl:n=j:=oM;have q:=za (show t=tot ls by rw [p.out,eE (by rw [d.out];exact eA _)]);go_wp2;go_ret;exact⟨zG (oH q.out),rfl⟩
def zdO (a:Aut):Nat:=tot a.next+a.acc.length
theorem zdm (h:zgn w base hi A n c A' n' c' a)(hk:k+zdO a<=4611686018427387904) :
  Calls Tryz.prog 25 #[.agg #[al,.slice A n c,.slice A' n' c'],k] w fun e w'=>e=.returned (.int .i64 (k+zdO a:Nat))∧zgn w' base hi A n c A' n' c' (mkA k a)∧Frm (fun b=>base<=b∧b<hi) w w':=by
 unfold zdO at hk;obtain⟨⟨s,z,O,R⟩,S,D,E,T,Q⟩:=h;rw [← D] at z;have x:=(dB w).alloc (.cells #[al,.slice A n c,.slice A' n' c'] 31);have B:=zg z x;have C:=O.ext x;have p:=zg E x;have L:=za R;have V:=za S;have M:=za T;have J:=za D;have u:=za Q;have t:=za C;have H:=za (show zdO a=tot a.next+a.acc.length from rfl);have U:=(eY E).len;clear z O E R S T D Q
 go_enter Tryz.func25,Tryz.ntmps25
 go_wp2_with fail
 refine (ziJ (k:=k) B t.out oM).mono ?_;rintro e Y ⟨rfl,r,q,g⟩;have d:=zh p g (fun b hb hS=>by
  obtain⟨i,m,hi,f⟩:=hS;obtain⟨l,_,ho⟩:=t.out.row hi;exact zaP ho p dM f hb)
 have G:=(eX w 31 #[al,.slice A n c,.slice A' n' c']).frm g (fun hS=>by
  obtain⟨i,m,hi,f⟩:=hS;obtain⟨l,_,ho⟩:=t.out.row hi;exact zw ho (eX w 31 #[al,.slice A n c,.slice A' n' c']) dM f rfl)
 have cb:=G.cell;have o:=za q;have y:=za g;clear q g;have I:k+tot a.next+n'<=4611686018427387904:=oH u.out;go_wp2_with fail
 refine (ziG (k:=k+tot a.next) d I).mono ?_;rintro e Z ⟨rfl,F,j⟩;go_wp2_with fail
 go_ret;have X:Frm (blk A') Y Z:=j;refine⟨zG (by have:=H.out;have:=u.out;omega),⟨⟨s,?_,?_,L.out⟩,V.out,?_,?_,M.out,?_⟩,?_⟩
 ·rw [show (mkA k a).next.length=n by rw [J.out];exact zem _ _];exact zh r j (fun b hb hS=>by
   obtain⟨v,rfl,rfl⟩:=hS;exact zaP d r dM rfl hb)
 ·exact o.out.frm j (fun i m b hr hb hS=>by
   obtain⟨v,rfl,rfl⟩:=hS;obtain⟨l,_,ho⟩:=o.out.row hr;exact zaP ho d dM hb rfl)
 ·rw [J.out];exact (zem _ _).symm
 ·have:(mkA k a).acc=mkBs (k+tot a.next) n':=by rw [u.out];rfl
  rw [this];exact F
 ·rw [u.out];exact (zeH _ _).symm
 ·refine ((x.ak).trans (y.out.mono fun b _ hS=>?_)).trans (j.mono fun b _ hS=>?_)
  ·obtain⟨i,m,hi,f⟩:=hS;obtain⟨l,_,ho⟩:=t.out.row hi;exact⟨(ho.lt b f).1,L.out i m b hi f⟩
  ·obtain⟨v,rfl,rfl⟩:=hS;exact⟨(d.lt v.block rfl).1,M.out v.block rfl⟩
theorem zdh (h:zC w lo hi A n A' n' (mkA k a))(hk:k+zdO a<=4611686018427387904) :
  Calls Tryz.prog 68 #[.agg #[al,.slice A n c,.slice A' n' c'],k] w fun e w'=>e=.returned (.int .i64 (k+zdO a:Nat))∧Ext w w':=by
 have d:=za (show zdO a=tot a.next+a.acc.length from rfl);unfold zdO at hk;have g:=(dB w).alloc (.cells #[al,.slice A n c,.slice A' n' c'] 31);have i:zax (w.alloc (.cells #[al,.slice A n c,.slice A' n' c'] 31)) lo hi A n (mkL k a.next):=h.1.ext g;have b:=za (show n'=a.acc.length by rw [h.2.1];exact zeH _ _);have j:Reads (w.alloc (.cells #[al,.slice A n c,.slice A' n' c'] 31)) lo hi 1 A' n' (zS (mkBs (k+tot a.next) n')):=by
  have:=h.2.2.ext g;rw [b.out];rw [b.out] at this;exact this
 have f:k+tot a.next+n'<=4611686018427387904:=oH b.out;have l:¬ (((k+tot a.next:Nat):Int)<0):=oM;have m:¬ (((k+tot a.next+n':Nat):Int)<0):=oM;clear h
 go_enter Tryz.func68,Tryz.ntmps68
 go_wp2_with fail
 refine (ziA (k:=k) i oM).mono ?_;rintro e o ⟨rfl,rfl⟩;go_wp2_with fail
 refine (ziy (k:=k+tot a.next) j f).mono ?_;rintro e o ⟨rfl,rfl⟩;go_wp2_with fail
 go_ret;exact⟨zG (by have:=d.out;have:=b.out;omega),g⟩
def aut0:Aut:=⟨0,[],[]⟩
theorem own_aut0 (w:World) (base:Nat):zY w base none 0 0 none 0 0 aut0:=⟨⟨[],World.ownsRow_nil _ _ _ _,zy.nil _ _⟩,rfl,World.ownsRow_nil _ _ _ _,rfl⟩
theorem zcz (s t:Sys) (p:Aut):iface s p t = -1∨∃ L:Nat,iface s p t=(L:Int):=by
 unfold iface;split
 ·exact .inr ⟨_,rfl⟩
 ·exact .inl rfl
section
variable {w:World} {lo hi n c lo1 hi1 m d m' d' lo2 hi2 k c2:Nat} {A B B' C:Option Addr} {s t:Sys} {p:Aut}
theorem spec_TaskOf0 (hs:zN w lo hi A n s)(hp:zC w lo1 hi1 B m B' m' p)(ht:zN w lo2 hi2 C k t)(hif:iface s p t = -1) :
  Calls Tryz.prog 174 #[.agg #[s.al,s.st,.slice A n c],.agg #[p.al,.slice B m d,.slice B' m' d'],.agg #[t.al,t.st,.slice C k c2]] w
   fun e w'=>e=.returned (.tuple #[.agg #[(0:Int),(0:Int),(),(0:Int),(),(),(0:Int)],.bool false])∧Ext w w':=by
 have b:=za (fun W (hW:Ext w W)=>zdI (c:=c) (d1:=d) (d1':=d') (c2:=c2) (hs.ext hW) (hp.ext hW) (ht.ext hW));rw [hif] at b;clear hs hp ht hif;obtain⟨l,U0⟩:∃ x,Hid ((((w.alloc (.cells #[s.al,s.st,.slice A n c] 38)).alloc (.cells #[p.al,.slice B m d,.slice B' m' d'] 31)).alloc (.cells #[t.al,t.st,.slice C k c2] 38)).alloc (.cells #[(0:Int),(0:Int),(),(0:Int),(),(),(0:Int)] 96)=x):=⟨_,za rfl⟩;have g:Ext w l:=(((((dB _).alloc _).alloc _).alloc _).alloc _).trans (gG U0.out);obtain⟨o,q,r⟩:=zM (((dB _).alloc _).trans (gG U0.out));have j:=eR U0.out;simp only [World.size_alloc] at j
 go_enter Tryz.func174,Tryz.ntmps174
 go_upto_region 1 with fail
 rw [U0.out] at *;have F:=o.cells;have E:=q.cells;have G:=r.cells;have D:=dB l;go_upto_region 3 with (first
  |(go_at_call 114;refine (b.out _ g).mono (mQ fun h a=>?_)))
 have i:=j.ext a;have I:=i.cell;have H:=i.frozen;have hxw:=g.trans a;have z:Frm (fun k=>k=w.heap.size+1+1+1) h (((((((h.setCell ⟨w.heap.size+1+1+1,0,none⟩ (0:Int)).setCell ⟨w.heap.size+1+1+1,1,none⟩ (0:Int)).setCell ⟨w.heap.size+1+1+1,2,none⟩ ()).setCell ⟨w.heap.size+1+1+1,3,none⟩ (0:Int)).setCell ⟨w.heap.size+1+1+1,4,none⟩ ()).setCell ⟨w.heap.size+1+1+1,5,none⟩ ()).setCell ⟨w.heap.size+1+1+1,6,none⟩ (0:Int)):=
  ((((((eC h _ 0 _).trans (eC _ _ 1 _)).trans (eC _ _ 2 _)).trans (eC _ _ 3 _)).trans (eC _ _ 4 _)).trans (eC _ _ 5 _)).trans (eC _ _ 6 _)
 have u:Blk (((((((h.setCell ⟨w.heap.size+1+1+1,0,none⟩ (0:Int)).setCell ⟨w.heap.size+1+1+1,1,none⟩ (0:Int)).setCell ⟨w.heap.size+1+1+1,2,none⟩ ()).setCell ⟨w.heap.size+1+1+1,3,none⟩ (0:Int)).setCell ⟨w.heap.size+1+1+1,4,none⟩ ()).setCell ⟨w.heap.size+1+1+1,5,none⟩ ()).setCell ⟨w.heap.size+1+1+1,6,none⟩ (0:Int)) (w.heap.size+1+1+1) 96 #[.int .i64 0,.int .i64 0,.slice none 0 0,.int .i64 0,.slice none 0 0,.slice none 0 0,.int .i64 0]:=by
  simpa using ((((((i.ab 0 (.int .i64 0)).ab 1 (.int .i64 0)).ab 2 (.slice none 0 0)).ab 3 (.int .i64 0)).ab 4 (.slice none 0 0)).ab 5 (.slice none 0 0)).ab 6 (.int .i64 0)
 have f:=za (hxw.frm z (fun k hk e=>oM));go_wp2_with fail
 generalize (((((((h.setCell ⟨w.heap.size+1+1+1,0,none⟩ (0:Int)).setCell ⟨w.heap.size+1+1+1,1,none⟩ (0:Int)).setCell ⟨w.heap.size+1+1+1,2,none⟩ ()).setCell ⟨w.heap.size+1+1+1,3,none⟩ (0:Int)).setCell ⟨w.heap.size+1+1+1,4,none⟩ ()).setCell ⟨w.heap.size+1+1+1,5,none⟩ ()).setCell ⟨w.heap.size+1+1+1,6,none⟩ (0:Int))=W at *;have y:=u.cell;exact bodyPost_ret (v:=.tuple #[.agg #[(0:Int),(0:Int),(),(0:Int),(),(),(0:Int)],.bool false]) (by simp [results,Tryz.results174,go_sem,y]) rfl ⟨rfl,f.out⟩
theorem spec_l12Run0 (hs:zN w lo hi A n s)(hp:zC w lo1 hi1 B m B' m' p)(ht:zN w lo2 hi2 C k t)(hif:iface s p t = -1) :
  Calls Tryz.prog 97 #[.agg #[s.al,s.st,.slice A n c],.agg #[t.al,t.st,.slice C k c2],.agg #[p.al,.slice B m d,.slice B' m' d'],K] w (zdb w ⟨3,noA,⟨#[]⟩,0⟩):=by
 have E:=za (fun W (hW:Ext w W)=>spec_TaskOf0 (c:=c) (d:=d) (d':=d') (c2:=c2) (hs.ext hW) (hp.ext hW) (ht.ext hW) hif);clear hs hp ht hif;obtain⟨q,U0⟩:∃ x,Hid (((((w.alloc (.cells #[s.al,s.st,.slice A n c] 38)).alloc (.cells #[t.al,t.st,.slice C k c2] 38)).alloc (.cells #[p.al,.slice B m d,.slice B' m' d'] 31)).alloc (.cells #[(0:Int),(0:Int),(),(),.string ⟨#[]⟩,(0:Int)] 67)).alloc (.cells #[(0:Int),(),()] 31)=x):=⟨_,za rfl⟩;have b:Ext w q:=((((((dB _).alloc _).alloc _).alloc _).alloc _).alloc _).trans (gG U0.out);obtain⟨r,u,y⟩:=zM ((((dB _).alloc _).alloc _).trans (gG U0.out));have i:=(eX (((w.alloc (.cells #[s.al,s.st,.slice A n c] 38)).alloc (.cells #[t.al,t.st,.slice C k c2] 38)).alloc (.cells #[p.al,.slice B m d,.slice B' m' d'] 31)) 67 #[(0:Int),(0:Int),(),(),.string ⟨#[]⟩,(0:Int)]).ext ((dB _).alloc (.cells #[(0:Int),(),()] 31));have j:=eR U0.out;simp only [World.size_alloc] at i j
 go_enter Tryz.func97,Tryz.ntmps97
 go_upto_region 1 with fail
 rw [U0.out] at *;have I:=r.cells;have J:=u.cells;have H:=y.cells;have F:=dB q;go_upto_region 2 with (first
  |(go_at_call 174;refine (E.out _ b).mono (mQ fun G f=>?_)))
 generalize U0:G.alloc _=D at *;have a:Ext q D:=(f.alloc _).trans (gG U0);clear U0;have h:=i.ext a;have Q:=h.cell;have M:=h.frozen;have g:=j.ext a;have O:=g.cell;have L:=g.frozen;obtain⟨z,l,o⟩:=zgv (v:=⟨3,noA,⟨#[]⟩,0⟩) (A:=none) (n:=0) (c:=0) (A':=none) (n':=0) (c':=0) (x:=0) (X:=none) (k1:=0) (d1:=0) (X':=none) (k1':=0) (d1':=0) (b.trans a) h g rfl rfl oM (own_aut0 _ _);dsimp only [noA] at z l o;have F2:=za l;have F3:=za o;clear l o h g r u y i j;go_wp2_with fail
 generalize (((((((((D.setCell ⟨w.heap.size+1+1+1,0,none⟩ (3:Int)).setCell ⟨w.heap.size+1+1+1,1,none⟩ (0:Int)).setCell ⟨w.heap.size+1+1+1,2,none⟩ ()).setCell ⟨w.heap.size+1+1+1,3,none⟩ ()).setCell ⟨w.heap.size+1+1+1,4,none⟩ (.string ⟨#[]⟩)).setCell ⟨w.heap.size+1+1+1,5,none⟩ (0:Int)).setCell ⟨w.heap.size+1+1+1+1,0,none⟩ (0:Int)).setCell ⟨w.heap.size+1+1+1+1,1,none⟩ ()).setCell ⟨w.heap.size+1+1+1+1,2,none⟩ ())=W at *;have cf2:=F2.out.cell;have cf3:=F3.out.cell;exact bodyPost_ret (v:=.tuple #[.agg #[(3:Int),(0:Int),(),(),.string ⟨#[]⟩,(0:Int)],.agg #[(0:Int),(),()]]) (by simp [results,Tryz.results97,go_sem,cf2,cf3]) rfl z.out
end
noncomputable def vpT (s t:Sys) (p:Aut):Vd:=
 if iface s p t<0 then ⟨3,noA,⟨#[]⟩,0⟩ else runT s t p (iface s p t).toNat 12 0 ((zO (iface s p t).toNat (zo s p (iface s p t).toNat) [⟨#[]⟩] 11 [⟨#[]⟩]).map fun r=>(r,[⟨#[]⟩]))
theorem zho (h:iface s p t = -1):vpT s t p=⟨3,noA,⟨#[]⟩,0⟩:=by unfold vpT;rw [if_pos oM]
theorem zhp (h:iface s p t=(L:Int)):vpT s t p=runT s t p L 12 0 ((zO L (zo s p L) [⟨#[]⟩] 11 [⟨#[]⟩]).map fun r=>(r,[⟨#[]⟩])):=by
 have e:(iface s p t).toNat=L:=oM;unfold vpT;rw [if_neg oM,e]
theorem iface_lt (h:iface s p t=(L:Int)):L<64:=by
 obtain⟨c,b,a⟩:=zbK (show 0<=iface s p t by omega);rw [zdQ c b a] at h;have d:=zF a;have f:((s.al.toNat|||p.al.toNat)&&&t.al.toNat)<=t.al.toNat:=Nat.and_le_right;omega
theorem vpT_size (s t:Sys) (p:Aut):(vpT s t p).asm.size<=1048576∧(vpT s t p).tr.size<=4000:=by
 rcases zcz s t p with h|⟨L,h⟩
 ·rw [zho h];exact⟨by show noA.size<=_;decide,eD _⟩
 ·rw [zhp h];obtain⟨b,a,c⟩:=zbK (show 0<=iface s p t by omega);exact runT_size (iface_lt h) (by simp [zA,b,c]) a 12 0 _ (zdM.new L _)
section
variable {w:World} {lo hi n c lo1 hi1 m d m' d' lo2 hi2 k c2:Nat} {A B B' C:Option Addr} {s t:Sys} {p:Aut}
theorem zgk (hs:zN w lo hi A n s)(hp:zC w lo1 hi1 B m B' m' p)(ht:zN w lo2 hi2 C k t)(hn:n<=1000000)(hhi:hi<=w.heap.size) :
  Calls Tryz.prog 44 #[.agg #[s.al,s.st,.slice A n c],.agg #[t.al,t.st,.slice C k c2],.agg #[p.al,.slice B m d,.slice B' m' d']] w
   (zih w (vpT s t p)):=by
 rcases zcz s t p with h|⟨L,h⟩
 ·rw [zho h];exact zcU (za (fun W (hW:Ext w W)=>spec_l12Run0 (K:=12) (hs.ext hW) (hp.ext hW) (ht.ext hW) h))
 ·rw [zhp h];exact zhc hs hp ht h hn hhi
end
theorem valid_len (h:zl s=true):s.edges.length<=1536:=by
 unfold zl at h;simp only [eG,decide_eq_true_eq,fF] at h;obtain⟨-,⟨C,D⟩,f⟩:=h;have j:∀ (k:Nat) (e:Edg),s.edges[k]?=some e->(k:Int)<=(e.fr*6+e.le)*16+e.ta∧(e.fr*6+e.le)*16+e.ta<1536:=by
  intro k
  induction k with
  |zero =>
   intro e he;have:=f 0 (List.mem_range.2 (List.getElem?_eq_some_iff.1 he).1);unfold zaZ at this;rw [he] at this;simp only [edgB,eG,decide_eq_true_eq] at this;obtain⟨⟨⟨m,n⟩,⟨o,p⟩,r,c⟩,-⟩:=this;unfold hasB at c;simp only [eG,decide_eq_true_eq] at c;omega
  |succ k ih =>
   intro e he;have t:=(List.getElem?_eq_some_iff.1 he).1;have:=f (k+1) (List.mem_range.2 t);unfold zaZ at this;rw [he] at this;obtain⟨q,i⟩:∃ q,s.edges[k]?=some q:=⟨_,dC oM⟩;have u:=ih q i;rw [show k+1 - 1=k by omega,i] at this;simp only [edgB,eG,gO,decide_eq_true_eq] at this;obtain⟨⟨⟨m,n⟩,⟨o,p⟩,r,c⟩,d⟩:=this;unfold hasB at c;simp only [eG,decide_eq_true_eq] at c;have a:=d.resolve_left oM;have b:=f k (List.mem_range.2 oM);unfold zaZ at b;rw [i] at b;simp only [edgB,eG,gO,decide_eq_true_eq] at b;obtain⟨⟨⟨v,x⟩,⟨y,z⟩,B,l⟩,-⟩:=b;unfold hasB at l;simp only [eG,decide_eq_true_eq] at l;unfold ltE at a
   split at a
   ·split at a
    ·rw [decide_eq_true_eq] at a;omega
    ·rw [decide_eq_true_eq] at a;omega
   ·rw [decide_eq_true_eq] at a;omega
 rcases fK 1536 s.edges.length with a|g
 ·have:=j 1536 _ (dC a);omega
 ·exact g
structure Vc where
 code:Int
 fst:Aut
 snd:Aut
 tr:ByteArray
 ro:Nat
noncomputable def zaL (x y z:Sys) (p:Aut) (L:Nat) (a:Aut):ByteArray × Int × Aut:=
 if zbF x a p=true then (zam (zaE x a p) L,-1,noA)
 else if (vpT y z a).code=0 then (⟨#[]⟩,0,(vpT y z a).asm)
 else if (vpT y z a).code=2 then (⟨#[]⟩,2,noA)
 else (zam (vpT y z a).tr L,if zo x p L (zam (vpT y z a).tr L)=true then -1 else 1,noA)
noncomputable def chT (x y z:Sys) (p:Aut) (L:Nat):Nat->Nat->Option (List ByteArray × List ByteArray)->Vc
 |0,k,_=>⟨2,noA,noA,⟨#[]⟩,k⟩
 |_+1,k,none=>⟨2,noA,noA,⟨#[]⟩,k⟩
 |f+1,k,some tab =>
  if (zaL x y z p L (zcx L (zo x p L) tab.1 tab.2)).2.1=0 then ⟨0,zcx L (zo x p L) tab.1 tab.2,(zaL x y z p L (zcx L (zo x p L) tab.1 tab.2)).2.2,⟨#[]⟩,k+1⟩
  else if (zaL x y z p L (zcx L (zo x p L) tab.1 tab.2)).2.1=2 then ⟨2,noA,noA,⟨#[]⟩,k+1⟩
  else if (zaL x y z p L (zcx L (zo x p L) tab.1 tab.2)).2.1=1 then ⟨1,noA,noA,zR [x,y,z] p,k+1⟩
  else chT x y z p L f (k+1) (zaq L (zo x p L) tab.1 tab.2 (zaL x y z p L (zcx L (zo x p L) tab.1 tab.2)).1)
noncomputable def vcT (ss:List Sys) (p:Aut):Vc:=
 match ss with
 |[x,y,z]=>if 0<=zat [x,y,z] p then chT x y z p (zat [x,y,z] p).toNat 12 0 ((zO (zat [x,y,z] p).toNat (zo x p (zat [x,y,z] p).toNat) [⟨#[]⟩] 11 [⟨#[]⟩]).map fun r=>(r,[⟨#[]⟩])) else ⟨3,noA,noA,⟨#[]⟩,0⟩
 |_=>⟨3,noA,noA,⟨#[]⟩,0⟩
theorem runT_tr (s t:Sys) (p:Aut) (L f:Nat):∀ (k:Nat) (o:Option (List ByteArray × List ByteArray)),(runT s t p L f k o).tr=⟨#[]⟩∨(runT s t p L f k o).tr=zR [s,t] p:=by
 induction f with
 |zero=>intro k o;exact .inl rfl
 |succ f ih =>
  intro k o;cases o with
  |none=>exact .inl rfl
  |some tab =>
   rw [runT];split
   ·exact .inl rfl
   ·split
    ·exact .inr rfl
    ·exact ih _ _
theorem zgy (hs:zl s=true)(ht:zl t=true)(hp:zj p=true):zaT (vpT s t p).tr=true:=by
 have a:zaT (⟨#[]⟩:ByteArray)=true:=by unfold zaT;rfl
 rcases zcz s t p with h|⟨L,h⟩
 ·rw [zho h];exact a
 ·rw [zhp h];rcases runT_tr s t p L 12 0 ((zO L (zo s p L) [⟨#[]⟩] 11 [⟨#[]⟩]).map fun r=>(r,[⟨#[]⟩])) with e|e
  ·rw [e];exact a
  ·rw [e];exact (zcw (ss:=[s,t]) (p:=p) (zfp sM sM (by simp [hs,ht])) hp).1
def RetVdS (w:World) (v:Vd) (L:Nat) (e:Ending) (w':World):Prop:=
 ∃ (A:Option Addr) (n c:Nat) (A':Option Addr) (n' c':Nat),
  e=.returned (.tuple #[.agg #[v.code,v.asm.al,.slice A n c,.slice A' n' c',v.tr,v.ro],.string (zam v.tr L)])∧zY w' w.heap.size A n c A' n' c' v.asm∧Ext w w'
section
variable {w:World} {lo hi c lo1 hi1 m d m' d' n1 c1 k1 d1 k1' d1' L b o:Nat} {A1 B B' X X':Option Addr} {x y z:Sys} {p a:Aut}
theorem yV13a2 {P:Prop}(h:P:=by
 simpa using (((((bG.ab 0 (.int .i64 v.code)).ab 1 (.int .i64 v.asm.al)).ab 2 (.slice Z1 z1 y1)).ab 3 (.slice Z2 z2 y2)).ab 4 (.string v.tr)).ab 5 (.int .i64 v.ro)
 ):P:=h
theorem ziS (h:zda w lo hi (some ⟨b,o,none⟩) 3 [x,y,z])(ha:zC w lo1 hi1 X k1 X' k1' a) (vy:zl y=true) (vz:zl z=true) (va:zj a=true)(hhi:hi<=w.heap.size)(hL:L<64) :
  Calls Tryz.prog 74 #[.slice (some ⟨b,o,none⟩) 3 c,.agg #[x.al,x.st,.slice A1 n1 c1,p.al,.slice B m d,.slice B' m' d',L],.agg #[a.al,.slice X k1 d1,.slice X' k1' d1']] w (RetVdS w (vpT y z a) L):=by
 obtain⟨By,ny,cy,f0,f1,f2,Y⟩:=h.sys2 (k:=1) (s:=y) rfl;obtain⟨Bz,nz,cz,g0,g1,g2,hz⟩:=h.sys2 (k:=2) (s:=z) rfl;have CL:∀ W,Ext w W->W.cell? ⟨b,o+3,none⟩=some (.int .i64 y.al)∧W.cell? ⟨b,o+4,none⟩=some (.int .i64 y.st)∧W.cell? ⟨b,o+5,none⟩=some (.slice By ny cy)∧W.cell? ⟨b,o+6,none⟩=some (.int .i64 z.al)∧W.cell? ⟨b,o+7,none⟩=some (.int .i64 z.st)∧W.cell? ⟨b,o+8,none⟩=some (.slice Bz nz cz):=fun W hW =>
  ⟨hW.aa (by simpa using f0),hW.aa (by simpa [fV] using f1),hW.aa (by simpa [fV] using f2),hW.aa (by simpa using g0),hW.aa (by simpa [fV] using g1),hW.aa (by simpa [fV] using g2)⟩
 have HV:=za (fun W (hW:Ext w W)=>zgk (c:=cy) (d:=d1) (d':=d1') (c2:=cz) (Y.ext hW) (ha.ext hW) (hz.ext hW) (by have:=Y.1;have:=valid_len vy;omega) (eJ hhi hW.size));have V:=za (zgy vy vz va);clear h ha vy vz va f0 f1 f2 g0 g1 g2 Y hz hhi;generalize vpT y z a=v at *
 go_enter Tryz.func74,Tryz.ntmps74
 go_upto_region 1 with fail
 generalize U0:((w.alloc _).alloc _).alloc _=u at *;obtain⟨t,b1,b2,b3⟩:=Ext.x3_ U0;clear U0;have C0:=b1.cells;have CA:=b2.cells;have O:=fun W (hW:Ext u W)=>CL W (t.trans hW);clear CL;have aD:=b3.lt
 go_cut [8] (fun v8 wx=>∃ (G:Nat) (Z1:Option Addr) (z1 y1:Nat) (Z2:Option Addr) (z2 y2:Nat),v8=.pointer (some G)∧u.heap.size<=G∧Blk wx G 67 #[v.code,v.asm.al,.slice Z1 z1 y1,.slice Z2 z2 y2,v.tr,v.ro]∧zY wx u.heap.size Z1 z1 y1 Z2 z2 y2 v.asm∧Ext u wx)
 case first =>
  have E:=dB u;refine uR (fun X=>Ext u X) [7,9] (zu.app [0,1,2,3,4,5,6] (zu.two 7 (zu.of [8,9]) 8 (zu.of [7,9]))) ?_;refine uQ ?_;have n:Ext u u.drew:=E.drew;have I:=n.size;generalize u.drew=wd at *;refine zn (fun K hK=>?_) (fun K hK=>?_)
  ·go_simp;refine (HV.out _ (t.trans n)).mono ?_;rintro e J ⟨Z1,z1,y1,Z2,z2,y2,rfl,ho,g⟩;refine hK.out _ _ (n.trans g) ?_;refine pT ?_;refine ze fun K hK=>?_;go_simp;have l:=(dB J).alloc (.cells #[(0:Int),(0:Int),(),(),.string ⟨#[]⟩,(0:Int)] 67);have f:=(n.trans g).trans l;have hG:u.heap.size<=J.heap.size:=(n.trans g).size;have r:=(ho.ext l).less I;refine hK.out _ _ f ?_;generalize U0:J.alloc _=M at *;have bG:=eR U0;clear U0;generalize J.heap.size=G at *;refine pT ?_;have S:=bG.cell;have T:=bG.frozen;refine zb fun K hK=>?_;go_simp;refine hK.out _ _ ?_;refine zf ?_;have q:=zcX M G (.int .i64 v.code) (.int .i64 v.asm.al) (.slice Z1 z1 y1) (.slice Z2 z2 y2) (.string v.tr) (.int .i64 v.ro);have D:Blk ((((((M.setCell G v.code).setCell ⟨G,1,none⟩ v.asm.al).setCell ⟨G,2,none⟩ (.slice Z1 z1 y1)).setCell ⟨G,3,none⟩ (.slice Z2 z2 y2)).setCell ⟨G,4,none⟩ v.tr).setCell ⟨G,5,none⟩ v.ro) G 67 #[.int .i64 v.code,.int .i64 v.asm.al,.slice Z1 z1 y1,.slice Z2 z2 y2,.string v.tr,.int .i64 v.ro]:=by
    exact yV13a2
   have R:=za (And.intro hG (And.intro D (And.intro (r.ai bG q dM) (f.frm q (fun k hk e=>oM)))));clear q D r ho f l g S T bG;go_wp2_with fail
   go_meet;exact⟨G,Z1,z1,y1,Z2,z2,y2,rfl,R.out⟩
  ·go_simp;have l:=(dB wd).alloc (.cells #[(0:Int),(0:Int),(),(),.string ⟨#[]⟩,(0:Int)] 67);have f:=n.trans l;refine hK.out _ _ f ?_;generalize U0:wd.alloc _=J at *;have bG:=eR U0;clear U0;generalize wd.heap.size=G at *;refine pT ?_;refine zb fun K hK=>?_;go_simp;refine (HV.out _ (t.trans f)).mono ?_;rintro e M ⟨Z1,z1,y1,Z2,z2,y2,rfl,ho,g⟩;have C:=f.trans g;have r:=ho.less f.size;replace bG:=bG.ext g;refine hK.out _ _ ?_;refine pT ?_;have S:=bG.cell;have T:=bG.frozen;refine zb fun K hK=>?_;go_simp;refine hK.out _ _ ?_;refine zf ?_;have q:=zcX M G (.int .i64 v.code) (.int .i64 v.asm.al) (.slice Z1 z1 y1) (.slice Z2 z2 y2) (.string v.tr) (.int .i64 v.ro);have D:Blk ((((((M.setCell G v.code).setCell ⟨G,1,none⟩ v.asm.al).setCell ⟨G,2,none⟩ (.slice Z1 z1 y1)).setCell ⟨G,3,none⟩ (.slice Z2 z2 y2)).setCell ⟨G,4,none⟩ v.tr).setCell ⟨G,5,none⟩ v.ro) G 67 #[.int .i64 v.code,.int .i64 v.asm.al,.slice Z1 z1 y1,.slice Z2 z2 y2,.string v.tr,.int .i64 v.ro]:=by
    exact yV13a2
   have R:=za (And.intro I (And.intro D (And.intro (r.ai bG q dM) (C.frm q (fun k hk e=>oM)))));clear q D r ho C f l g S T bG;go_wp2_with fail
   go_meet;exact⟨G,Z1,z1,y1,Z2,z2,y2,rfl,R.out⟩
 case rest =>
  obtain⟨G,Z1,z1,y1,Z2,z2,y2,rfl,hG,D,ho,F⟩:=hcut;have U:=za (zaM (s:=v.tr) (a:=L) (w:=wc.drew) V.out oM);have i:=b3.ext F;have aE:=D.lt;have aw:=fun W (hW:Ext wc W)=>C0 W (F.trans hW);have CV:=D.cells;have E:=dB wc;clear C0 CA O;go_upto_region 2 with fail
  refine uR (fun X=>Ext wc X) [6] (zu.of [0,1,2,3,4,5,6,7]) ?_;refine uQ ?_;refine ze fun K hK=>?_;go_simp;refine U.out.mono (mQ fun Z C=>?_);have j:Ext wc Z:=E.drew.trans C;refine hK.out _ _ j ?_;refine pT ?_;replace i:=i.ext j;replace ho:=(ho.ext j).less t.size;have cR:=i.cell;have fR:=i.frozen;refine zb fun K hK=>?_;go_simp;refine hK.out _ _ ?_;refine uQ ?_;refine zf ?_;have q:=zcX Z (w.heap.size+1+1) (.int .i64 v.code) (.int .i64 v.asm.al) (.slice Z1 z1 y1) (.slice Z2 z2 y2) (.string v.tr) (.int .i64 v.ro);have bR:Blk ((((((Z.setCell ⟨w.heap.size+1+1,0,none⟩ v.code).setCell ⟨w.heap.size+1+1,1,none⟩ v.asm.al).setCell ⟨w.heap.size+1+1,2,none⟩ (.slice Z1 z1 y1)).setCell ⟨w.heap.size+1+1,3,none⟩ (.slice Z2 z2 y2)).setCell ⟨w.heap.size+1+1,4,none⟩ v.tr).setCell ⟨w.heap.size+1+1,5,none⟩ v.ro) (w.heap.size+1+1) 67 #[.int .i64 v.code,.int .i64 v.asm.al,.slice Z1 z1 y1,.slice Z2 z2 y2,.string v.tr,.int .i64 v.ro]:=by
   simpa using (((((i.ab 0 (.int .i64 v.code)).ab 1 (.int .i64 v.asm.al)).ab 2 (.slice Z1 z1 y1)).ab 3 (.slice Z2 z2 y2)).ab 4 (.string v.tr)).ab 5 (.int .i64 v.ro)
  have H:=za (show RetVdS w v L (.returned (.tuple #[.agg #[v.code,v.asm.al,.slice Z1 z1 y1,.slice Z2 z2 y2,v.tr,v.ro],.string (zam v.tr L)])) _ from ⟨Z1,z1,y1,Z2,z2,y2,rfl,ho.ai i q dM,(t.trans (F.trans j)).frm q (fun k hk e=>oM)⟩);have Q:=za bR;clear q bR i cR fR ho;go_wp2_with fail
  have cf:=Q.out.cell;exact bodyPost_ret (v:=.tuple #[.agg #[v.code,v.asm.al,.slice Z1 z1 y1,.slice Z2 z2 y2,v.tr,v.ro],.string (zam v.tr L)]) (by simp [results,Tryz.results74,go_sem,cf]) rfl H.out
end
theorem wl_wstr (h:∀ l∈v,l<6):wl (wstr v)=v:=by
 unfold wl wstr lbs;rw [strOfNums_data,List.map_map,List.map_map]
 conv=>rhs;rw [← List.map_id v]
 refine List.map_congr_left fun l hl=>?_;have a:=h l hl;have b:∀ l,l<6->(UInt8.ofNat (97+l)).toNat - 97=l:=dM;have:=b l a;show (UInt8.ofNat (((97+l:Nat):Int)).toNat).toNat - 97=l;rw [fC];exact this
theorem vio_key (hss:∀ s∈ss,zl s=true)(ha:zj a=true)(hp:zj p=true) (hv:∀ l∈v,l<6) :
  (∃ x,zbh (zbJ ss a p) [0] v x∧zbv a p x=true)↔zeP ss a p v:=by
 have g:∀ s∈ss,zdL (zdv s):=fun s hs=>zdZ (zbV (hss s hs));have r:∀ m∈[zbl a,zbl p],zdL m:=by simp;exact⟨zbm ha,zbm hp⟩
 have o:zD [zbl a,zbl p]=a.next.length*p.next.length:=by simp [zD,zah,zbl]
 have u:=(zk ha).2.1;have z:=(zk hp).2.1;have b:∀ x,zbv a p x=zbv a p (x % zD [zbl a,zbl p]):=by
  intro x;unfold zbv;rw [o,Nat.mod_mul_left_mod,gF,Nat.mod_mul_right_div_self,Nat.mod_mod]
 rw [zcI];have k:=zhL r hv (fun y=>zbv a p y=true) g;have n:(∃ x,zbh (pnx (zaW ss [a,p])) [0] v x∧zbv a p x=true)↔(∃ x,zbh (pnx (ss.map zdv++[zbl a,zbl p])) [0] v x∧zbv a p (x % zD [zbl a,zbl p])=true):=by
  constructor
  ·rintro ⟨x,h,c⟩;exact⟨x,h,by rw [← b];exact c⟩
  ·rintro ⟨x,h,c⟩;exact⟨x,h,by rw [b];exact c⟩
 rw [n,k];unfold zeP;refine and_congr_right fun _=>?_;have f:=zdY ha hv (q:=0) oM;have d:=zdY hp hv (q:=0) oM;have i:(zaR a 0 v*p.next.length+zaR p 0 v) / p.next.length % a.next.length=zaR a 0 v:=by
  rw [gF,Nat.mul_add_div oM,Nat.div_eq_of_lt d,Nat.add_zero,iS f]
 have j:(zaR a 0 v*p.next.length+zaR p 0 v) % p.next.length=zaR p 0 v:=by
  rw [gF,Nat.mul_add_mod,iS d]
 constructor
 ·rintro ⟨y,t,c⟩;rw [(zgq ha hp hv y).1 t] at c;unfold zbv at c;rw [i,j] at c;simpa using c
 ·intro c;refine⟨_,(zgq ha hp hv _).2 rfl,?_⟩;unfold zbv;rw [i,j];simpa using c
def FstW (A:Nat) (B:List Nat->Prop) (v:List Nat):Prop:=Over A v∧B v∧∀ u,Over A u->zcn u<zcn v->¬ B u
theorem FstW.congr {A:Nat} {B C:List Nat->Prop} (h:FstW A B v)(he:∀ u,Over A u->(B u↔C u)):FstW A C v:=
 ⟨h.1,(he v h.1).1 h.2.1,fun u hu hlt hc=>h.2.2 u hu hlt ((he u hu).2 hc)⟩
theorem vioW_cases (hss:∀ s∈ss,zl s=true)(ha:zj a=true)(hp:zj p=true) :
  (vioB ss a p=true∧∃ v,vioW ss a p=wstr v∧FstW (zE ss|||a.al.toNat) (zeP ss a p) v)∨(vioB ss a p=false∧vioW ss a p=wstr []∧∀ v,Over (zE ss|||a.al.toNat) v->¬ zeP ss a p v):=by
 have m:∀ l∈letters (zE ss|||a.al.toNat) 6,l<6:=fun l hl=>(zB.1 hl).1
 by_cases hl:Lost (zbJ ss a p) [0] (zbv a p) (letters (zE ss|||a.al.toNat) 6)
 ·obtain⟨c,d⟩:=zfI hl;refine .inr ⟨by unfold vioB;rw [d];rfl,by unfold vioW;rw [c],fun v b hb=>?_⟩;obtain⟨x,g,f⟩:=(vio_key hss ha hp (fun l hl=>(b l hl).1)).2 hb;have:=hl v (zfo.2 b) x g;rw [f] at this;cases this
 ·obtain⟨v,h⟩:=zeu hl;obtain⟨c,d⟩:=zeD m h;obtain⟨i,j,k⟩:=h;have b:=zfo.1 i;refine .inl ⟨by unfold vioB;rw [d];rfl,v,by unfold vioW;rw [c],b,(vio_key hss ha hp (fun l hl=>(b l hl).1)).1 j,fun u hu hlt hb=>?_⟩;obtain⟨x,g,f⟩:=(vio_key hss ha hp (fun l hl=>(hu l hl).1)).2 hb;have:=k u (zfo.2 hu) hlt x g;rw [f] at this;cases this
theorem breaks_free :zeP ss free p v↔(∀ s∈ss,Runs s v)∧zck p (zaR p 0 v)=false:=by
 unfold zeP;rw [runA_free];exact⟨fun h=>⟨h.1,h.2.2⟩,fun h=>⟨h.1,rfl,h.2⟩⟩
theorem zhH (h:zbw ss p=true):zA ss=true∧zj p=true:=by
 unfold zbw zbO at h;simp only [eG] at h;exact h.1
theorem brok_first (h:zbw ss p=true):∃ v,zR ss p=wstr v∧FstW (zE ss) (fun v=>(∀ s∈ss,Runs s v)∧zck p (zaR p 0 v)=false) v:=by
 obtain⟨d,f⟩:=zhH h;obtain⟨-,j⟩:=zac d;have i:vioB ss free p=true:=by unfold zbw at h;simp only [eG] at h;exact h.2
 have c:zE ss|||free.al.toNat=zE ss:=by rw [show free.al.toNat=0 from rfl,Nat.or_zero]
 rcases vioW_cases (a:=free) j zdg f with ⟨-,v,b,g⟩|⟨b,-,-⟩
 ·rw [c] at g;exact⟨v,by unfold zR zbO;rw [d,f];exact b,g.congr fun u _=>breaks_free⟩
 ·rw [i] at b;cases b
theorem brok_top (h:zbw ss p=true):topB ss (zR ss p)=true∧breakB p (zR ss p)=true:=by
 obtain⟨c,d⟩:=zhH h;obtain⟨v,g,f,⟨i,j⟩,-⟩:=brok_first h;have b:=(zcw c d).1;have a:wl (zR ss p)=v:=by rw [g];exact wl_wstr fun l hl=>(f l hl).1
 refine⟨top_iff.2 ⟨c,b,by rw [a];exact f,by rw [a];exact i⟩,?_⟩;unfold breakB;rw [d,b,a,j];rfl
theorem judge_zero (hs:zl s=true)(hp:zj p=true)(ht:zl t=true)(ha:zj a=true)(h:(zbb s p t L a).2=0):zhQ s a p=true∧zdH [t] a=true:=by
 unfold zbb at h
 split at h
 ·cases h
 ·rename_i h1
  split at h
  ·split at h<;>cases h
  ·rename_i h2;refine⟨?_,?_⟩
   ·rw [zgd,show zcj s a p=true by unfold zcj;rw [hs,ha,hp];rfl];simpa using h1
   ·rw [zgC,show zbO [t] a=true by unfold zbO;rw [ha,zfp sM sM (by simpa using ht)];rfl];simpa using h2
theorem zdV {x:Sys} {ts:List Sys}   {w:ByteArray}(hL:L=(x.al.toNat|||p.al.toNat)&&&zE ts)(hpa:zA (x :: ts)=true)(hw:zaT w=true)(hu:Over (zE ts) (wl w))(hr:∀ t∈ts,Runs t (wl w))(hs:zo x p L (zam w L)=false):zdH (x :: ts) p=false:=by
 refine zjb hL hpa hu hr fun hsafe=>?_;have a:zo x p L (zam w L)=true:=by
  rw [zea];refine⟨zbP hw L,?_⟩;rw [wl_restB hw];exact hsafe
 rw [hs] at a;cases a
theorem judge_one (hL:L=(s.al.toNat|||p.al.toNat)&&&t.al.toNat)(hs:zl s=true)(ht:zl t=true)(h:(zbb s p t L a).2=1):zdH [s,t] p=false:=by
 unfold zbb at h
 split at h
 ·cases h
 ·split at h
  ·rename_i h2
   split at h
   ·cases h
   ·rename_i h3;obtain⟨k1,-⟩:=brok_top h2;obtain⟨-,b,c,d⟩:=top_iff.1 k1;exact zdV (L:=L) (by rw [hL];simp [zE]) (zfp sM sM (by simp [hs,ht])) b c d (by simpa using h3)
  ·cases h
theorem bits_one:∀ (l:List (List Bool)),l.Nodup->(∀ x∈l,x.length=1)->l.length<=2:=by
 intro l hn hl;have h:l ⊆ [[true],[false]]:=by
  intro x hx;have:=hl x hx
  match x,this with
  |[true],_=>simp
  |[false],_=>simp
 simpa using List.Nodup.length_le_of_subset hn h
section
variable {L:Nat} {f:ByteArray->Bool} {rows cols:List ByteArray}
theorem rows_few (h:zbG L f rows cols)(hc:cols.length=1):rows.length<=2:=by
 have:=bits_one _ h.nd (fun x hx=>by
  obtain⟨y,-,rfl⟩:=List.mem_map.1 hx;unfold zbt;rw [eQ];exact hc)
 simpa using this
theorem closeT_long:∀ (k:Nat) (rows:List ByteArray),zbG L f rows cols->rows.length+k<=12->zO L f cols k rows=none->∃ rows',zbG L f rows' cols∧rows'.length=rows.length+k∧zaw L f rows' cols≠none:=by
 intro k
 induction k with
 |zero =>
  intro rows h _ hn;refine⟨rows,h,rfl,fun ho=>?_⟩;rw [zbX 0 ho] at hn;cases hn
 |succ k ih =>
  intro rows h hk hn;cases ho:zaw L f rows cols with
  |none=>rw [zbX _ ho] at hn;cases hn
  |some z =>
   rw [zcy k ho] at hn;have a:=h.grow oM ho;obtain⟨r,b,c,d⟩:=ih _ a (by simp;omega) hn;exact⟨r,b,by rw [c];simp;omega,d⟩
theorem zgT (L:Nat) (f:ByteArray->Bool):∃ r,zO L f [⟨#[]⟩] 11 [⟨#[]⟩]=some r:=by
 cases h:zO L f [⟨#[]⟩] 11 [⟨#[]⟩] with
 |some r=>exact⟨r,rfl⟩
 |none =>
  obtain⟨r,a,b,-⟩:=closeT_long 11 _ (zbG.first L f) dM h
  have:=rows_few a rfl;rw [b] at this;simp at this
end
structure VdOk (s t:Sys) (p:Aut) (L:Nat) (v:Vd):Prop where
 code:v.code=0∨v.code=1∨v.code=2
 holds:v.code=0->zj v.asm=true∧v.asm.al=(L:Int)∧zhQ s v.asm p=true∧zdH [t] v.asm=true∧v.ro<=v.asm.next.length
 none_:v.code≠0->v.asm=noA
 fails:v.code=1->zdH [s,t] p=false∧v.tr=zR [s,t] p
 quiet:v.code≠1->v.tr=⟨#[]⟩
 ro:1<=v.ro∧v.ro<=12
structure LnOk (L:Nat) (f:ByteArray->Bool) (k:Nat) (o:Option (List ByteArray × List ByteArray)):Prop where
 tab:zdM L f o
 more:∀ rs cs,o=some (rs,cs)->k<rs.length
 none_:o=none->1<=k∧k<=12
theorem LnOk.start (L:Nat) (f:ByteArray->Bool):LnOk L f 0 ((zO L f [⟨#[]⟩] 11 [⟨#[]⟩]).map fun r=>(r,[⟨#[]⟩])):=by
 refine⟨zdM.new L f,fun rs cs e=>((zdM.new L f) rs cs e).1.r1,fun h=>?_⟩;obtain⟨r,a⟩:=zgT L f;rw [a] at h;cases h
theorem LnOk.ao {rs cs:List ByteArray}(h:LnOk L f k (some (rs,cs))) (x:ByteArray):LnOk L f (k+1) (zaq L f rs cs x):=by
 obtain⟨a,b⟩:=h.tab rs cs rfl;have d:=h.more rs cs rfl;refine⟨zdM.ao a x,fun r c e=>?_,fun _=>⟨oM,oH a.r12⟩⟩;have:=(zeG a b e).1;omega
theorem runT_ok (hs:zl s=true)(hp:zj p=true)(ht:zl t=true)(hL:L=(s.al.toNat|||p.al.toNat)&&&t.al.toNat)(h64:L<64) :
  ∀ (g k:Nat) (o:Option (List ByteArray × List ByteArray)),LnOk L (zo s p L) k o->12<=g+k->VdOk s t p L (runT s t p L g k o):=by
 have j:∀ k,1<=k∧k<=12->VdOk s t p L ⟨2,noA,⟨#[]⟩,k⟩:=fun k i=>⟨.inr (.inr rfl),(fun h=>by cases h),fun _=>rfl,(fun h=>by cases h),fun _=>rfl,i⟩;intro g
 induction g with
 |zero =>
  intro k o ho hg;rw [runT];cases o with
  |none=>exact j k (ho.none_ rfl)
  |some tab =>
   have q:=(ho.tab tab.1 tab.2 rfl).1.r12;have r:=ho.more tab.1 tab.2 rfl;omega
 |succ g ih =>
  intro k o ho hg;cases o with
  |none=>rw [runT];exact j k (ho.none_ rfl)
  |some tab =>
   obtain⟨b,c⟩:=tab;obtain⟨d,a⟩:=ho.tab b c rfl;have i:=ho.more b c rfl;have l:=d.r12;have f:=zbj d a h64;rw [runT];split
   ·rename_i hj;obtain⟨m,n⟩:=judge_zero hs hp ht f hj;refine⟨.inl rfl,fun _=>⟨f,rfl,m,n,?_⟩,fun h=>absurd rfl h,(fun h=>by cases h),fun _=>rfl,⟨by show 1<=k+1;omega,by show k+1<=12;omega⟩⟩;show k+1<=(b.map _).length;rw [eQ];omega
   ·split
    ·rename_i hj;exact⟨.inr (.inl rfl),(fun h=>by cases h),fun _=>rfl,fun _=>⟨judge_one hL hs ht hj,rfl⟩,fun h=>absurd rfl h,⟨by show 1<=k+1;omega,by show k+1<=12;omega⟩⟩
    ·exact ih _ _ (ho.ao _) oM
theorem vpT_ok (h:iface s p t=(L:Int)):VdOk s t p L (vpT s t p):=by
 obtain⟨d,f,b⟩:=zbK (s:=s) (p:=p) (t:=t) oM;have c:L=(s.al.toNat|||p.al.toNat)&&&t.al.toNat:=by
  have:=zdQ d f b;rw [h] at this;exact Int.ofNat.inj this
 have a:L<64:=by
  rw [c];have:=zF b;exact Nat.lt_of_le_of_lt Nat.and_le_right oM
 rw [zhp h];exact runT_ok d f b c a 12 0 _ (LnOk.start _ _) oM
theorem find_adj (a:Nat->Bool) (n:Nat):(fE n).find? (fun k=>a k != a (k+1))=(fE n).find? (fun k=>a (k+1) != a 0):=by
 by_cases h:∃ k,k<n∧a (k+1)≠a 0
 ·have i:∃ k,(k<n∧a (k+1)≠a 0)∧∀ j,j<k->a (j+1)=a 0:=by
   have f:∀ m k,k<=m->k<n->a (k+1)≠a 0->∃ k,(k<n∧a (k+1)≠a 0)∧∀ j,j<k->a (j+1)=a 0:=by
    intro m
    induction m with
    |zero =>
     intro k hk hn hne;obtain rfl:k=0:=oM;exact⟨0,⟨hn,hne⟩,fun j hj=>oM⟩
    |succ m ih =>
     intro k hk hn hne
     by_cases hj:∃ j,j<k∧a (j+1)≠a 0
     ·obtain⟨j,d,c⟩:=hj;exact ih j oM oM c
     ·exact⟨k,⟨hn,hne⟩,fun j hjk=>Classical.not_not.1 fun h=>hj ⟨j,hjk,h⟩⟩
   obtain⟨k,d,c⟩:=h;exact f k k (eA _) d c
  obtain⟨k,⟨d,c⟩,g⟩:=i;have b:∀ j,j<=k->a j=a 0:=by
   intro j hj;cases j with
   |zero=>rfl
   |succ j=>exact g j oM
  rw [zek d (fun j hj=>by rw [b j oM,b (j+1) oM];simp) (by rw [b k (eA _)];simpa using fun h=>c h.symm),
   zek d (fun j hj=>by rw [b (j+1) oM];simp) (by simpa using c)]
 ·have b:∀ j,j<=n->a j=a 0:=by
   intro j hj;cases j with
   |zero=>rfl
   |succ j=>exact Classical.not_not.1 fun hne=>h ⟨j,oM,hne⟩
  rw [List.find?_eq_none.2 (fun k hk=>by rw [b k (by have:=List.mem_range.1 hk;omega),b (k+1) (by have:=List.mem_range.1 hk;omega)];simp),
   List.find?_eq_none.2 (fun k hk=>by rw [b (k+1) (by have:=List.mem_range.1 hk;omega)];simp)]
section
variable {L:Nat} {f:ByteArray->Bool} {rows cols:List ByteArray} {x:ByteArray}
noncomputable def zci (L:Nat) (f:ByteArray->Bool) (rows cols:List ByteArray) (x:ByteArray):Option ByteArray:=
 if zck (zcx L f rows cols) (zaR (zcx L f rows cols) 0 (wl x))=f x then none
 else ((fE x.size).find? fun k=>zht L f rows cols x (k+1) != f x).map fun k=>x.extract (k+1) x.size
theorem extract_all (x:ByteArray):x.extract 0 x.size=x:=by
 apply ByteArray.ext;rw [ByteArray.data_extract];simp
theorem empty_append (x:ByteArray):(⟨#[]⟩:ByteArray)++x=x:=by
 apply ByteArray.ext;rw [ByteArray.data_append];simp
theorem split_same (hI:zbG L f rows cols)(hx:inB x L=true)(h4:x.size<=4000):zcV L f rows cols x=zci L f rows cols x:=by
 have a:zht L f rows cols x 0=f x:=by
  unfold zht stT;rw [List.take_zero];show f (rows.getD 0 ⟨#[]⟩++_)=_;rw [eF,hI.r0,gE,extract_all,empty_append]
 unfold zcV zci;rw [find_adj (zht L f rows cols x),a]
 by_cases h:zck (zcx L f rows cols) (zaR (zcx L f rows cols) 0 (wl x))=f x
 ·rw [if_pos h,if_neg (by rintro ⟨-,b⟩;exact b h)]
 ·rw [if_neg h,if_pos ⟨by rw [hx];simpa using h4,h⟩]
theorem zgJ (hx:inB x L=true) (k:Nat):inB (x.extract k x.size) L=true:=by
 obtain⟨a,d⟩:=zeF.1 hx;have g:(x.extract k x.size).size<=x.size:=by rw [ByteArray.size_extract];omega
 have hd:(x.extract k x.size).data.toList=x.data.toList.drop k:=by
  rw [ByteArray.data_extract,Array.toList_extract,List.extract_eq_take_drop,eE];rw [iE];show x.data.toList.length - k<=x.size - k;rw [Array.length_toList];exact eA _
 have h:zaT (x.extract k x.size)=true:=by
  unfold zaT at a ⊢;simp only [eG,decide_eq_true_eq,fF] at a ⊢;refine⟨oM,fun b hb=>a.2 b ?_⟩;rw [hd] at hb;exact jU hb
 refine zeF.2 ⟨h,?_⟩;apply Nat.eq_of_testBit_eq;intro l;rw [gP,Bool.and_eq_left_iff_imp];intro hl;have f:l∈wl x:=by
  have:=(zdx _ _).1 hl;unfold wl at this ⊢;rw [hd,List.map_drop] at this;exact jU this
 have c:=(zdx _ _).2 f;rw [← d,gP,eG] at c;exact c.2
theorem split_col {col:ByteArray}(hx:inB x L=true)(h4:x.size<=4000)(h:zci L f rows cols x=some col):inB col L=true∧col.size<=4000:=by
 unfold zci at h
 split at h
 ·cases h
 ·obtain⟨k,-,rfl⟩:=Option.map_eq_some_iff.1 h;exact⟨zgJ hx _,by rw [ByteArray.size_extract];omega⟩
theorem learn_same (hI:zbG L f rows cols)(hx:inB x L=true)(h4:x.size<=4000) :
  zaq L f rows cols x=match zci L f rows cols x with
   |none=>none
   |some col=>if (!zcs cols col&&decide (cols.length≠20))=true then (zO L f (cols++[col]) (12 - rows.length) rows).map fun r=>(r,cols++[col]) else none:=by
 unfold zaq;rw [split_same hI hx h4];cases h:zci L f rows cols x with
 |none=>rfl
 |some col =>
  obtain⟨a,b⟩:=split_col hx h4 h;dsimp only;unfold zge;rw [a,decide_eq_true b];rfl
end
section
variable {J:zbn} {B b0 L base nr cr nc cc kn:Nat} {S S':Nat->Prop} {W W':World} {R C:Option Addr} {rows cols:List ByteArray} {f:ByteArray->Bool} {rc:Value}
theorem tb_cell {bT q l tc:Nat} {TA:Option Addr} {g:Nat->Nat->Nat}(h:w.ownsRow bT 179 6 (.slice TA n tc) n (tbC n g))(hq:q<n)(hl:l<6):∃ gT,TA=some ⟨gT,0,none⟩∧w.cell? ⟨gT,q*6+l,none⟩=some (.int .i64 (g q l:Nat)):=by
 obtain⟨gT,rfl,-,-⟩:=zao h oM;exact⟨gT,rfl,by rw [h.cellAt _ oM,tbC_get hq hl]⟩
theorem st_step {l:Nat}(hl:(wl x)[k]?=some l):stT L f rows cols x (k+1)=aGo (zcx L f rows cols) (stT L f rows cols x k) l:=by
 unfold stT;rw [eH,hl,e7,zbq]
theorem or_splitWord (hO:zeR b0 L f J kn rc)(hj:J B W S)(hB:B+6000<10000000)(hT:zgo W S base R nr cr C nc cc rows cols)(hI:zbG L f rows cols)(hcl:zaw L f rows cols=none)(hb0:b0<=W.heap.size)(hL:L<64)(hx:inB x L=true)(hxs:x.size<=4000) :
  Calls Tryz.prog 162 #[orcV L kn rc,.agg #[.slice R nr cr,.slice C nc cc],x] W (RetO J (.tuple #[.string ((zci L f rows cols x).getD ⟨#[]⟩),.bool (zci L f rows cols x).isSome]) (B+6000) S W):=by
 have HO:=za hO;have HI:=za hI;have hv:=za (zbj hI hcl hL);have D:Ext W ((W.alloc (.cells #[(L:Int),.func (.func kn) #[rc] #[]] 115)).alloc (.cells #[.slice R nr cr,.slice C nc cc] 101)):=((dB _).alloc _).alloc _;obtain⟨b3,b4⟩:=zH (dB ((W.alloc (.cells #[(L:Int),.func (.func kn) #[rc] #[]] 115)).alloc (.cells #[.slice R nr cr,.slice C nc cc] 101)));have ag:=za (fun (q:Nat) (hq:W.heap.size<=q)=>zbn.fresh hO.ok hj hq);have ci:=hO.ok.keep hj D (fun _ _ h=>h.elim);have bt:=za (hT.ext D);have bx:=za hT.lens;have cn:W.heap.size<((W.alloc (.cells #[(L:Int),.func (.func kn) #[rc] #[]] 115)).alloc (.cells #[.slice R nr cr,.slice C nc cc] 101)).heap.size∧W.heap.size+1<((W.alloc (.cells #[(L:Int),.func (.func kn) #[rc] #[]] 115)).alloc (.cells #[.slice R nr cr,.slice C nc cc] 101)).heap.size:=by simp;omega
 have Hx:=za hx;have Hb:=za (fun k hk=>zaF (zaJ hx) (k:=k) hk);have aC:=za (fun (X:World) (hX:Ext W X)=>zdX hO (hO.ok.keep hj hX (fun _ _ h=>h.elim)) oM (hT.ext hX) hI hcl (eJ hb0 hX.size) hL);have b9:=hO.in_;have a7:(zcx L f rows cols).next.length=rows.length:=by simp [zcx]
 have ay:stT L f rows cols x 0=0:=by simp [stT,zaR]
 have H:=za a7;have bI:=za ay;have bB:=za hI.r12;have bA:=za hI.r1;clear hO hI hT hcl hx hj a7 ay;obtain⟨a,ha⟩:∃ a,Hid (zcx L f rows cols=a):=⟨_,za rfl⟩;have aq:=za (show a.al=(L:Int) by rw [← ha.out];rfl);have aL:=za (show zci L f rows cols x=if zck a (zaR a 0 (wl x))=f x then none else ((fE x.size).find? fun k=>zht L f rows cols x (k+1) != f x).map fun k=>x.extract (k+1) x.size by rw [← ha.out];rfl);have bd:=za (fun (k l:Nat) (hl:(wl x)[k]?=some l)=>st_step (L:=L) (f:=f) (rows:=rows) (cols:=cols) hl);rw [ha.out] at aC hv H bd
 go_enter Tryz.func162,Tryz.ntmps162
 go_upto_region 1 with fail
 generalize (W.alloc _).alloc _=w1 at *;have k3:=b3.cell;have k4:=b4.cell;go_upto_region 2 with (go_at_call 81;refine (aC.out _ D).mono ?_;rintro e w2 ⟨S2,A,A',n,c,n',c',rfl,aS,ai⟩;rw [aq.out])
 obtain⟨w3,U0⟩:∃ x,Hid (w2.alloc (.cells #[(L:Int),.slice A n c,.slice A' n' c'] 31)=x):=⟨_,za rfl⟩;have hb8:=eR U0.out;have am:Ext w2 w3:=((dB _).alloc _).trans (gG U0.out);obtain⟨G,aW⟩:∃ G,Hid (G=w2.heap.size):=⟨_,za rfl⟩;rw [← aW.out] at hb8 ⊢;have bU:=ai.size;have av:=za (fun (q:Nat) (hq:w2.heap.size<=q)=>zbn.fresh HO.out.ok ai.j hq);have br:=av.out G (oH aW.out);have B3:=za b3;have B4:=za b4;clear k3 k4 b3 b4;rw [U0.out] at *;have k8:=hb8.cell;have az:=aS.ext am;have aV:=za (zY.reads az.own_);go_upto_region 3 with (go_at_call 151;rw [← aq.out];refine (zbM aV.out hv.out).mono ?_;rintro e w4 ⟨TA,tc,rfl,⟨bT,cg,aJ⟩,ak⟩)
 have be:=am.trans ak;have a4:=za (ai.ext HO.out.ok be);have aT:=za (az.ext ak);have ar:=za (hb8.ext ak);have aA:=za (show zfC w4 S2 bT 179 6 (.slice TA a.next.length tc) a.next.length (tbC a.next.length (aGo a)) from ⟨aJ,fun b hb=>av.out b (by have:=(aJ.lt b hb).1;have:=am.size;omega)⟩);have ck:a.next.length<=12:=by rw [H.out];exact bB.out
 clear hb8 am aS az aV aJ ak k8 ai aC;go_wp2_with fail
 go_loopw [10,11,21] (fun qv _ iv wr=>∃ k:Nat,iv=.int .i64 k∧qv=.int .i64 (zaR a 0 ((wl x).take k))∧k<=x.size∧Ext w4 wr) (fun _ _ iv _=>x.size - (intOf iv).toNat)
 case atStart=>exact⟨0,rfl,by simp [zaR],eD _,dB _⟩
 case round =>
  obtain⟨k,rfl,rfl,hk,t⟩:=hrel;have p:∀ k,zaR a 0 ((wl x).take k)<a.next.length:=fun k=>zdY hv.out (fun l hl=>wl_lt (zaJ Hx.out) l (List.mem_of_mem_take hl)) (by rw [H.out];exact bA.out)
  by_cases hlt:k<x.size
  ·have a6:(k:Int)<(x.size:Int):=oM;have bu:=Hb.out k hlt;have U:=za (zdK hlt);have Y:=za (show ltr (x[k].toNat)=((x[k].toNat - 97:Nat):Int) by unfold ltr;rw [if_neg oM];omega);obtain⟨l,V⟩:∃ l,Hid (l=x[k].toNat - 97):=⟨x[k].toNat - 97,za rfl⟩;rw [← V.out] at U Y;have aH:l<6:=oH V.out;have aa:=za (show zaR a 0 ((wl x).take (k+1))=aGo a (zaR a 0 ((wl x).take k)) l by rw [eH,U.out,e7,zbq]);have m:=p k;obtain⟨q,z⟩:∃ q,Hid (zaR a 0 ((wl x).take k)=q):=⟨_,za rfl⟩;rw [z.out] at aa m ⊢;obtain⟨gT,rfl,i⟩:=tb_cell (aA.out.ext t).own m aH;rw [← aa.out] at i;have CT:∀ X,Ext wr X->X.cell? ⟨gT,q*6+l,none⟩=some (.int .i64 (zaR a 0 ((wl x).take (k+1)):Nat)):=fun X hX=>hX.aa i;have aK:(q:Int)<(a.next.length:Int):=oM;have a5:(l:Int)<6:=oM;have d:=dB wr;clear i p;obtain⟨q',Z⟩:∃ q',Hid (zaR a 0 ((wl x).take (k+1))=q'):=⟨_,za rfl⟩;rw [Z.out] at CT;go_upto_region 7 with fail
   refine uR (fun X=>Ext wr X) [] (zu.of [0,1,2,3,5,4,6,7,8]) ?_;refine uQ ?_;refine ze fun K hK=>?_;go_simp;refine (zbL x k hlt _).mono ?_;rw [Y.out];rintro e w6 ⟨rfl,rfl⟩;refine hK.out _ _ d.drew ?_;refine pT ?_;refine uQ ?_;refine zf ?_;go_wp2_with fail
   go_roundw
   case rel=>exact⟨k+1,gM,by rw [Z.out],oM,t.trans d.drew⟩
   case measure=>simp [intOf];omega
  ·obtain rfl:k=x.size:=oM;have bC:=za (show zaR a 0 ((wl x).take x.size)=zaR a 0 (wl x) by rw [eE (by rw [zfz];exact eA _)]);have m:=p x.size;rw [bC.out] at m ⊢;have ap:=za p;obtain⟨q,z⟩:∃ q,Hid (zaR a 0 (wl x)=q):=⟨_,za rfl⟩;rw [z.out] at m ⊢;have aj:=za (a4.out.ext HO.out.ok t);have M:=za (HO.out.ask _ wr S2 x aj.out.j oM Hx.out oM);obtain⟨I,g⟩:∃ I,Hid (f x=I):=⟨_,za rfl⟩;rw [g.out] at M;have k3:=(aj.out.blk B3.out (ag.out _ (eA _))).1.cell;have aU:=za (aT.out.ext t);have aZ:=za (aA.out.ext t);have a1:=za (ar.out.ext t);clear p a4 aT aA ar t;go_upto_region 10 with fail
   refine M.out.mono ?_;rintro e w5 ⟨S5,rfl,O⟩;have v:=za (aj.out.trans O);have af:=aU.out.kp O;have aX:=za (aZ.out.kp O);have a0:=(O.blk a1.out br).1;have k8:=a0.cell;obtain rfl:=own_num af.acc;have u:=za (zk hv.out).2.2.1;obtain⟨gA,rfl,-,-⟩:=zao af.acc (oH u.out);have cA:w5.cell? ⟨gA,q,none⟩=some (.bool (zck a q)):=by
    rw [af.acc.cellAt q (oH u.out)];unfold zck zS;rw [List.getElem?_map,eF,dC (oH u.out)];rfl
   have bR:(q:Int)<(a.acc.length:Int):=oH u.out;obtain⟨ba,ah⟩:∃ ba,Hid (zck a q=ba):=⟨_,za rfl⟩;rw [ah.out] at cA;clear af a0 aU aZ a1 O M k3 aj;have a3:=(v.out.blk B3.out (ag.out _ (eA _)))
   by_cases hbe:ba=I
   ·have o:=za (show RetO J (.tuple #[.string ((zci L f rows cols x).getD ⟨#[]⟩),.bool (zci L f rows cols x).isSome]) (B+6000) S W (.returned (.tuple #[.string ⟨#[]⟩,.bool false])) w5 from
     ⟨S5,by rw [aL.out,z.out,ah.out,g.out,if_pos hbe];rfl,(v.out.more HO.out.ok oM).back D⟩)
    have y:(ba==I)=true:=by rw [hbe];simp
    go_wp2_with fail
    go_ret2;exact o.out
   ·have y:(ba==I)=false:=by simpa using hbe
    have aP:=za hbe;clear hbe;go_upto_region 12 with fail
    clear k8 cA y a3;go_wp2_with fail
    go_loopw [10,13,46] (fun qv _ iv wr=>∃ (k:Nat) (S6:Nat->Prop),iv=.int .i64 k∧qv=.int .i64 (zaR a 0 ((wl x).take k))∧k<=x.size∧Hid (Kp J (B+1693+k) S w1 wr S6)∧Hid (zfC wr S6 bT 179 6 (.slice TA a.next.length tc) a.next.length (tbC a.next.length (aGo a)))∧Hid (∀ j,j<k->zht L f rows cols x (j+1)=I)) (fun _ _ iv _=>x.size - (intOf iv).toNat)
    case atStart=>exact⟨0,S5,rfl,by simp [zaR],eD _,v,aX,za (fun j h=>oM)⟩
    case round =>
     clear v aX;obtain⟨k,S6,rfl,rfl,hk,aG,aB,aI⟩:=hrel
     by_cases hlt:k<x.size
     ·have a6:(k:Int)<(x.size:Int):=oM;have bu:=Hb.out k hlt;have U:=za (zdK hlt);have Y:=za (show ltr (x[k].toNat)=((x[k].toNat - 97:Nat):Int) by unfold ltr;rw [if_neg oM];omega);obtain⟨l,V⟩:∃ l,Hid (l=x[k].toNat - 97):=⟨x[k].toNat - 97,za rfl⟩;rw [← V.out] at U Y;have aH:l<6:=oH V.out;have aa:=za (show zaR a 0 ((wl x).take (k+1))=aGo a (zaR a 0 ((wl x).take k)) l by rw [eH,U.out,e7,zbq]);have ab:=ap.out k;have ad:=ap.out (k+1);have bc:=za (show zht L f rows cols x (k+1)=f (rows.getD (zaR a 0 ((wl x).take (k+1))) ⟨#[]⟩++x.extract (k+1) x.size) by rw [← ha.out];rfl);obtain⟨q0,a9⟩:∃ q0,Hid (zaR a 0 ((wl x).take k)=q0):=⟨_,za rfl⟩;rw [a9.out] at aa ab ⊢;obtain⟨gT,rfl,i⟩:=tb_cell aB.out.own ab aH;rw [← aa.out] at i;obtain⟨q',Z⟩:∃ q',Hid (zaR a 0 ((wl x).take (k+1))=q'):=⟨_,za rfl⟩;rw [Z.out] at i ad bc;have CT:∀ X,Ext wr X->X.cell? ⟨gT,q0*6+l,none⟩=some (.int .i64 (q':Nat)):=fun X hX=>hX.aa i;have aK:(q0:Int)<(a.next.length:Int):=oM;have a5:(l:Int)<6:=oM;have d:=dB wr;clear i;go_upto_region 16 with fail
      refine uR (fun X=>Ext wr X) [] (zu.of [0,1,2,3,5,4,6,7,8]) ?_;refine uQ ?_;refine ze fun K hK=>?_;go_simp;refine (zbL x k hlt _).mono ?_;rw [Y.out];rintro e w6 ⟨rfl,rfl⟩;refine hK.out _ _ d.drew ?_;refine pT ?_;refine uQ ?_;refine zf ?_;have Q:=za (aG.out.ext HO.out.ok d.drew);have aY:=za (aB.out.ext d.drew);clear CT aG aB d;generalize wr.drew=wd at *;obtain⟨r,hr⟩:∃ r,rows[q']?=some r:=⟨_,dC (by rw [← H.out];exact ad)⟩;have bb:=za (List.mem_of_getElem? hr);have cm:r.size<=12:=(HI.out.rin bb.out).2;obtain⟨gR,rfl,a2⟩:=zgX (bt.out.kp Q.out).r.own hr;obtain⟨y2,E⟩:∃ y2,Hid (x.extract (k+1) x.size=y2):=⟨_,za rfl⟩;have bX:y2.size<=4000:=by rw [← E.out,ByteArray.size_extract];omega
      obtain⟨z2,an⟩:∃ z2,Hid (r++y2=z2):=⟨_,za rfl⟩;have bf:=za (show inB z2 L=true by
       rw [← an.out,← E.out];exact zhN (HI.out.rin bb.out).1 (zgJ Hx.out (k+1)) (by rw [E.out];omega))
      have bD:z2.size<=9000:=by rw [← an.out,ByteArray.size_append];omega
      have ax:=za (show zht L f rows cols x (k+1)=f z2 by rw [bc.out,eF,hr,gE,E.out,an.out]);obtain⟨bz,aD⟩:∃ bz,Hid (f z2=bz):=⟨_,za rfl⟩;have bS:¬ 9223372036854775807<r.size+y2.size:=oM;have cl:(q':Int)<(nr:Int):=by rw [← bx.out.1,← H.out];omega
      have bV:=IntWalk.i64_in ((k:Int)+1) oM;have cj:(k:Int)+1<=(x.size:Int):=oM;have bQ:(0:Int)<=(k:Int)+1:=oM;have bW:=E.out;have bY:=an.out;have K3:∀ X,Ext wd X->∀ j,X.cell? ⟨W.heap.size,j,none⟩=#[Value.int .i64 (L:Int),.func (.func kn) #[rc] #[]][j]?:=fun X hX=>((Q.out.blk B3.out (ag.out _ (eA _))).1.ext hX).cell;have K4:∀ X,Ext wd X->∀ j,X.cell? ⟨W.heap.size+1,j,none⟩=#[Value.slice (some gR) nr cr,.slice C nc cc][j]?:=fun X hX=>((Q.out.blk B4.out (ag.out _ oM)).1.ext hX).cell;have CR:∀ X,Ext wd X->X.cell? ⟨gR,q',none⟩=some (.string r):=fun X hX=>hX.aa a2;have d:=dB wd;clear a2 hr;go_upto_region 17 with fail
      refine uR (fun X=>Ext wd X) [12] (zu.of [0,1,2,3,4,5,6,7,8,9,10,11,13,12,14]) ?_;refine uQ ?_;have T:=Q.out.ext HO.out.ok d.drew;have s:=za (HO.out.ask _ wd.drew S6 z2 T.j oM bf.out bD);rw [aD.out] at s;refine zb fun K hK=>?_;go_simp;refine s.out.mono ?_;rintro e w7 ⟨S7,rfl,aF⟩;refine hK.out _ _ ?_;refine pT ?_;refine uQ ?_;refine zf ?_;have aw:=za (T.trans aF);have bs:=za ((aY.out.ext d.drew).kp aF);clear K3 K4 CR s T aF Q aY
      by_cases hbe:bz=I
      ·have y:(bz==I)=true:=by rw [hbe];simp
       have a8:=za (show ∀ j,j<k+1->zht L f rows cols x (j+1)=I from fun j hj=>by
        rcases Nat.lt_or_eq_of_le (Nat.le_of_lt_succ hj) with h1|rfl
        ·exact aI.out j h1
        ·rw [ax.out,aD.out,hbe])
       clear y;have F:=za hbe;clear hbe;go_wp2_with fail
       ·rename_i hh;exfalso;rw [F.out] at hh;simp at hh
       ·go_roundw
        case rel=>exact⟨k+1,S7,gM,by rw [Z.out],oM,za (by have:=aw.out;rwa [show B+1693+k+1=B+1693+(k+1) by omega] at this),bs,a8⟩
        case measure=>simp [intOf];omega
      ·have au:(bz != I)=true:=by simpa using hbe
       have y:(bz==I)=false:=by simpa using hbe
       have o:=za (show RetO J (.tuple #[.string ((zci L f rows cols x).getD ⟨#[]⟩),.bool (zci L f rows cols x).isSome]) (B+6000) S W (.returned (.tuple #[y2,.bool true])) w7 from by
        have aE:(fE x.size).find? (fun k=>zht L f rows cols x (k+1) != f x)=some k:=zek hlt (fun j hj=>by rw [aI.out j hj,g.out];simp) (by rw [ax.out,aD.out,g.out];exact au);exact⟨S7,by rw [aL.out,z.out,ah.out,g.out,if_neg aP.out,← g.out,aE,← E.out];rfl,(aw.out.more HO.out.ok oM).back D⟩)
       have F:=za hbe;clear hbe au y;go_wp2_with fail
       ·go_ret2;exact o.out
       ·rename_i hh;exfalso;exact F.out (by simpa using hh)
     ·have ch:¬ (k:Int)<(x.size:Int):=oM;have o:=za (show RetO J (.tuple #[.string ((zci L f rows cols x).getD ⟨#[]⟩),.bool (zci L f rows cols x).isSome]) (B+6000) S W (.returned (.tuple #[.string ⟨#[]⟩,.bool false])) wr from by
       have aE:(fE x.size).find? (fun k=>zht L f rows cols x (k+1) != f x)=none:=by
        rw [List.find?_eq_none];intro j hj;rw [List.mem_range] at hj;rw [aI.out j oM,g.out];simp
       exact⟨S6,by rw [aL.out,z.out,ah.out,g.out,if_neg aP.out,← g.out,aE];rfl,(aG.out.more HO.out.ok oM).back D⟩)
      go_wp2_with fail
      go_ret2;exact o.out
end
end Go.Proofs.YtcfchopfijalpaaGreatDoor
