/- The referenc -/
import Derived.Test.YtckbjnndaaoddaaGreatDoorY14
set_option maxHeartbeats 4000000
set_option maxRecDepth 100000
namespace Go.Proofs.YtckbjnndaaoddaaGreatDoor
open Go Go.RowKit
open Blk renaming new->eX
open Ext renaming al_->iY,bl_->eS,eq_->gO,refl->dE,x2_->iS
open Frm renaming setCell->eB
open Int renaming cast_ofNat_Int->jY,natCast_add->iT
open List renaming getElem?_eq_getElem->dH,length_set->gU,mem_of_getElem?->dG
open Nat renaming add_assoc->gF,le_refl->dI,le_trans->eI,lt_of_lt_of_le->eV,zero_le->eC
open Reads renaming af->eW
variable {A A':Option Addr} {L M R Z b base base' c c' g i k n n' o:Nat} {W w:World} {a p:Aut} {l:List Int} {ss:List Sys} {v:Bool} {vs:Array Value} {x y z:Sys}
theorem vc_frm (W:World) (Z:Nat) (u0 u1 u2 u3 u4 u5 u6 u7 u8:Value):Frm (fun k=>k=Z) W (((((((((W.setCell Z (u0)).setCell ⟨Z,1,none⟩ (u1)).setCell ⟨Z,2,none⟩ (u2)).setCell ⟨Z,3,none⟩ (u3)).setCell ⟨Z,4,none⟩ (u4)).setCell ⟨Z,5,none⟩ (u5)).setCell ⟨Z,6,none⟩ (u6)).setCell ⟨Z,7,none⟩ (u7)).setCell ⟨Z,8,none⟩ (u8)):=
 ((((((((eB W _ 0 _).trans (eB _ _ 1 _)).trans (eB _ _ 2 _)).trans (eB _ _ 3 _)).trans (eB _ _ 4 _)).trans (eB _ _ 5 _)).trans (eB _ _ 6 _)).trans (eB _ _ 7 _)).trans (eB _ _ 8 _)
theorem zii {t:TypeId} (h:Blk W Z t vs)(h9:vs.size=9) (u0 u1 u2 u3 u4 u5 u6 u7 u8:Value):Blk (((((((((W.setCell Z (u0)).setCell ⟨Z,1,none⟩ (u1)).setCell ⟨Z,2,none⟩ (u2)).setCell ⟨Z,3,none⟩ (u3)).setCell ⟨Z,4,none⟩ (u4)).setCell ⟨Z,5,none⟩ (u5)).setCell ⟨Z,6,none⟩ (u6)).setCell ⟨Z,7,none⟩ (u7)).setCell ⟨Z,8,none⟩ (u8)) Z t #[u0,u1,u2,u3,u4,u5,u6,u7,u8]:=by
 obtain⟨a⟩:=vs
 match a,h9 with
 |[a0,a1,a2,a3,a4,a5,a6,a7,a8],_ =>
  simpa using ((((((((h.ab 0 u0).ab 1 u1).ab 2 u2).ab 3 u3).ab 4 u4).ab 5 u5).ab 6 u6).ab 7 u7).ab 8 u8
def zhr (w:World) (v:Vc) (e:Ending) (w':World):Prop:=
 ∃ (A:Option Addr) (n c:Nat) (A':Option Addr) (n' c':Nat) (C:Option Addr) (k d:Nat) (C':Option Addr) (k' d':Nat),
  e=.returned (.agg #[v.code,v.fst.al,.slice A n c,.slice A' n' c',v.snd.al,.slice C k d,.slice C' k' d',v.tr,v.ro])∧zN w' w.heap.size A n c A' n' c' v.fst∧zN w' w.heap.size C k d C' k' d' v.snd∧Ext w w'
theorem zhr.cast {v u:Vc} {e:Ending}(hu:u=v)(h:zhr w v e W):zhr w u e W:=hu ▸ h
theorem zbM (W:World) (base:Nat):zN W base none 0 0 none 0 0 noA:=⟨⟨[],World.ownsRow_nil _ _ _ _,zC.nil _ _⟩,rfl,World.ownsRow_nil _ _ _ _,rfl⟩
theorem zij {d k' d':Nat} {C C':Option Addr} {v:Vc} (hx:Ext w W)(hv:Blk W Z 33 vs) (_h9:vs.size=9)(hZ:w.heap.size<=Z)(ho:zN W w.heap.size A n c A' n' c' v.fst)(ho2:zN W w.heap.size C k d C' k' d' v.snd) :
  zhr w v (.returned (.agg #[v.code,v.fst.al,.slice A n c,.slice A' n' c',v.snd.al,.slice C k d,.slice C' k' d',v.tr,v.ro]))
   (((((((((W.setCell Z v.code).setCell ⟨Z,1,none⟩ v.fst.al).setCell ⟨Z,2,none⟩ (.slice A n c)).setCell ⟨Z,3,none⟩ (.slice A' n' c')).setCell ⟨Z,4,none⟩ v.snd.al).setCell ⟨Z,5,none⟩ (.slice C k d)).setCell ⟨Z,6,none⟩ (.slice C' k' d')).setCell ⟨Z,7,none⟩ v.tr).setCell ⟨Z,8,none⟩ v.ro):=by
 have hf:=vc_frm W Z (.int .i64 v.code) (.int .i64 v.fst.al) (.slice A n c) (.slice A' n' c') (.int .i64 v.snd.al) (.slice C k d) (.slice C' k' d') (.string v.tr) (.int .i64 v.ro);exact⟨A,n,c,A',n',c',C,k,d,C',k',d',rfl,ho.aq hv hf dM,ho2.aq hv hf dM,hx.frm hf (fun k hk e=>oM)⟩
section
variable {w:World} {lo hi c lo1 hi1 m d m' d' n:Nat} {A B B':Option Addr} {ss:List Sys} {p:Aut}
theorem zjQ {r:Int}(h:zdG w lo hi A n ss)(hp:zF w lo1 hi1 B m B' m' p) :
  Calls Tryz.prog 63 #[.slice A n c,.agg #[p.al,.slice B m d,.slice B' m' d'],r] w fun e w'=>e=.returned (.agg #[(1:Int),(0:Int),(),(),(0:Int),(),(),.string (zR ss p),r])∧Ext w w':=by
 have j:=za (fun W (hW:Ext w W)=>zbP (c:=c) (d2:=d) (d2':=d') (h.ext hW) (hp.ext hW));clear h hp;generalize zR ss p=i at *;generalize zbf ss p=u at *
 go_enter Tryz.func63,Tryz.ntmps63
 go_upto_region 1 with fail
 generalize U0:(w.alloc _).alloc _=C at *;obtain⟨f,l,o⟩:=iS U0;clear U0;have x:=l.cell;go_upto_region 2 with (first
  |(go_at_call 150;refine (j.out _ f).mono (mQ fun t g=>?_)))
 have a:=o.ext g;have z:=a.cell;have y:=a.frozen;have hf:=vc_frm t (w.heap.size+1) (.int .i64 1) (.int .i64 0) (.slice none 0 0) (.slice none 0 0) (.int .i64 0) (.slice none 0 0) (.slice none 0 0) (.string i) (.int .i64 r);have s:=za (zii a rfl (.int .i64 1) (.int .i64 0) (.slice none 0 0) (.slice none 0 0) (.int .i64 0) (.slice none 0 0) (.slice none 0 0) (.string i) (.int .i64 r));have b:=za ((f.trans g).frm hf (fun k hk e=>oM));clear hf a;go_wp2_with fail
 have q:=s.out.cell;exact bodyPost_ret (v:=.agg #[(1:Int),(0:Int),(),(),(0:Int),(),(),i,r]) (by simp [results,Tryz.results63,go_sem,q]) rfl ⟨rfl,b.out⟩
theorem zgx (h:zdG w lo hi A n ss)(hp:zF w lo1 hi1 B m B' m' p)(h3:three ss p=false) :
  Calls Tryz.prog 18 #[.slice A n c,.agg #[p.al,.slice B m d,.slice B' m' d']] w (zhr w ⟨3,noA,noA,⟨#[]⟩,0⟩):=by
 have j:=za (show zay ss p = -1 by unfold zay;rw [h3];rfl);have b:=za (fun W (hW:Ext w W)=>zdS (c:=c) (d:=d) (d':=d') (h.ext hW) (hp.ext hW));rw [j.out] at b;clear h hp h3;generalize zcb ss p=x at *
 go_enter Tryz.func18,Tryz.ntmps18
 go_upto_region 1 with fail
 generalize U0:(w.alloc _).alloc _=y at *;obtain⟨g,l,o⟩:=iS U0;clear U0;have s:=l.cell;go_upto_region 3 with (first
  |(go_at_call 56;refine (b.out _ g).mono (mQ fun k i=>?_)))
 have a:=o.ext i;have u:=a.cell;have t:=a.frozen;have r:=za (zii a rfl (.int .i64 3) (.int .i64 0) (.slice none 0 0) (.slice none 0 0) (.int .i64 0) (.slice none 0 0) (.slice none 0 0) (.string ⟨#[]⟩) (.int .i64 0));have f:=za (zij (v:=⟨3,noA,noA,⟨#[]⟩,0⟩) (g.trans i) a rfl oM (zbM k _) (zbM k _));clear a;go_wp2_with fail
 have q:=r.out.cell;exact bodyPost_ret (v:=.agg #[(3:Int),(0:Int),(),(),(0:Int),(),(),.string ⟨#[]⟩,(0:Int)]) (by simp [results,Tryz.results18,go_sem,q]) rfl f.out
theorem yY15a1 {P:Prop}(h:P:=by
 generalize zaB L (zo x p L) rs cs rw_=oL at *;generalize U0:wF.alloc _=wG at *;have hxG:=Ext.al_ U0;have b19:=Ext.bl_ U0;clear U0;have b9G:=b9E.ext (hxF.trans hxG);have hxG2:=hxE.trans (hxF.trans hxG);have k19:=b19.cell;have k9G:=b9G.cell;have f9G:=b9G.frozen;have hfH:Frm (fun b=>b=G) wG ((wG.setCell G (.slice R2 nr2 cr2)).setCell ⟨G,1,none⟩ (.slice C2 nc2 cc2)):=(Frm.setCell wG _ 0 _).trans (Frm.setCell _ _ 1 _);have hTMH:TabM w2 ((wG.setCell G (.slice R2 nr2 cr2)).setCell ⟨G,1,none⟩ (.slice C2 nc2 cc2)) G oL:=
  ⟨nr2,nc2,R2,cr2,C2,cc2,by simpa using (b9G.ab 0 (.slice R2 nr2 cr2)).ab 1 (.slice C2 nc2 cc2),hcr2,hcc2,fun rs' cs' e=>by
   have h1:=zh (hT2 rs' cs' e).1 hxG;have h2:=zh (hT2 rs' cs' e).2 hxG;exact⟨zf h1 hfH (fun b hv e'=>zr h1 b9G dM hv e'),zf h2 hfH (fun b hv e'=>zr h2 b9G dM hv e')⟩⟩
 have hxH:=hxG2.frm hfH (fun k hk e=>oM);clear cTc k9 b9E oRE oCE b9G hfH b19 hT2 hxF hxG hxG2 HTatE;go_upto_region 25 with fail
 generalize (wG.setCell G (.slice R2 nr2 cr2)).setCell ⟨G,1,none⟩ (.slice C2 nc2 cc2)=wH at *;clear k19 k9G f9G;go_wp2_with fail
 go_roundw
 case rel=>exact⟨oL,j+1,rfl,by push_cast;rfl,oM,za (fun rs' cs' e=>by have:=hmore.out rs' cs' e;have:=hjl.out;omega),hokL,hrunL,hTMH,hxH⟩
 case measure=>simp [intOf];omega
 ):P:=h
theorem zgy (h:zdG w lo hi (some ⟨b,o,none⟩) 3 [x,y,z])(hp:zF w lo1 hi1 B m B' m' p)(h3:three [x,y,z] p=true)(hc:zay [x,y,z] p=(L:Int))(hL:L<64)(hhi:hi<=w.heap.size)(hhi1:hi1<=w.heap.size) :
  Calls Tryz.prog 18 #[.slice (some ⟨b,o,none⟩) 3 c,.agg #[p.al,.slice B m d,.slice B' m' d']] w (zhr w (chT x y z p L 12 0 ((zX L (zo x p L) [⟨#[]⟩] 11 [⟨#[]⟩]).map fun r=>(r,[⟨#[]⟩])))):=by
 obtain⟨-,bu,vp⟩:=zgd.1 h3;obtain⟨-,hv⟩:=zao bu;have vx:=hv x sM;have vy:=hv y sM;have vz:=hv z sM;obtain⟨A1,n1,c1,f0,f1,f2,bd⟩:=h.ax (k:=0) (s:=x) rfl;have CL:∀ W,Ext w W->W.cell? ⟨b,o,none⟩=some (.int .i64 x.al)∧W.cell? ⟨b,o+1,none⟩=some (.int .i64 x.st)∧W.cell? ⟨b,o+2,none⟩=some (.slice A1 n1 c1):=fun W hW =>
  ⟨hW.aa (by simpa using f0),hW.aa (by simpa using f1),hW.aa (by simpa using f2)⟩
 have a5:Tch w A1 n1 B m B' m' x p L:=⟨⟨min lo lo1,max hi hi1,bd.more (Nat.min_le_left _ _) (Nat.le_max_left _ _),hp.more (Nat.min_le_right _ _) (Nat.le_max_right _ _),Nat.max_le.2 ⟨hhi,hhi1⟩⟩,vx,vp,hL⟩;have bl:=za (fun W (hW:Ext w W)=>zdS (c:=c) (d:=d) (d':=d') (h.ext hW) (hp.ext hW));rw [hc] at bl;have bX:=za (fun W (hW:Ext w W) (r:Int)=>zjQ (c:=c) (d:=d) (d':=d') (r:=r) (h.ext hW) (hp.ext hW));have b3:=za (fun W (hW:Ext w W) (a:Aut) (X:Option Addr) (k1 d1:Nat) (X':Option Addr) (k1' d1' l1 l2:Nat) (ha:zF W l1 l2 X k1 X' k1' a)=>zdg (c:=c1) (d1:=d1) (d1':=d1') (d2:=d) (d2':=d') (bd.ext hW) ha (hp.ext hW));have HJ:=za (fun W (hW:Ext w W) (a:Aut) (X:Option Addr) (k1 d1:Nat) (X':Option Addr) (k1' d1' l1 l2:Nat) (ha:zF W l1 l2 X k1 X' k1' a) (va:zj a=true)=>zjR (c:=c) (A1:=A1) (n1:=n1) (c1:=c1) (p:=p) (B:=B) (m:=m) (d:=d) (B':=B') (m':=m') (d':=d') (d1:=d1) (d1':=d1') (h.ext hW) ha vy vz va (eI hhi hW.size) hL);have Hv:=za (And.intro vx (And.intro vy (And.intro vz vp)));obtain⟨I,be⟩:∃ I,Hid (chT x y z p L 12 0 ((zX L (zo x p L) [⟨#[]⟩] 11 [⟨#[]⟩]).map fun r=>(r,[⟨#[]⟩]))=I):=⟨_,rfl⟩;have az:=za (zex.new L (zo x p L));rw [be.out];obtain⟨ab,aR⟩:∃ ab,Hid ((zX L (zo x p L) [⟨#[]⟩] 11 [⟨#[]⟩]).map (fun r=>(r,[(⟨#[]⟩:ByteArray)]))=ab):=⟨_,rfl⟩;rw [aR.out] at be az;have a4:=za (fun rs cs (e:ab=some (rs,cs))=>show 0<rs.length from by have:=((az.out rs cs e).1).r1;omega);clear h hp h3 hc bu vp hv vx vy vz f0 f1 f2 bd;generalize zcb [x,y,z] p=q2 at *;have bs:¬ (L:Int)<0:=oM
 go_enter Tryz.func18,Tryz.ntmps18
 go_upto_region 1 with fail
 generalize U0:(w.alloc _).alloc _=w0 at *;obtain⟨u,b1,b2⟩:=iS U0;clear U0;have cM:=b2.lt;have cL:w.heap.size<=w.heap.size+1:=oM;have aW:=b1.cells;have bB:=dE w0;go_upto_region 4 with (first
  |(go_at_call 56;refine (bl.out _ u).mono (mQ fun w1 a7=>?_)))
 generalize w.heap.size+1=Z at *;have bQ:=fun W (hW:Ext w1 W)=>CL W (u.trans (a7.trans hW));have bS:=fun W (hW:Ext w1 W)=>aW W (a7.trans hW);clear bB bs
 go_cut [7] (fun v wx=>∃ G:Nat,v=.pointer (some G)∧Blk wx G 70 #[x.al,x.st,.slice A1 n1 c1,p.al,.slice B m d,.slice B' m' d',L]∧Ext w1 wx)
 case first =>
  have cg:=dE w1;have bE:Ext w1 w1.drew:=cg.drew;refine uR (fun X=>Ext w1 X) [7] (zw.of [0,1,2,3,4,5,6,7]) ?_;refine uQ ?_;generalize w1.drew=wd at *;refine ze fun K hK=>?_;go_simp;have bD:=(dE wd).alloc (.cells #[(0:Int),(0:Int),(),(0:Int),(),(),(0:Int)] 70);have a8:=bE.trans bD;have cQ:=bE.size;refine hK.out _ _ a8 ?_;generalize U0:wd.alloc _=we at *;have bG:=eS U0;clear U0;generalize wd.heap.size=G at *;refine pT ?_;have cG:=bG.cell;have fG:=bG.frozen;refine zb fun K hK=>?_;go_simp;refine hK.out _ _ ?_;refine zg ?_;have hf:Frm (fun k=>k=G) we (((((((we.setCell G x.al).setCell ⟨G,1,none⟩ x.st).setCell ⟨G,2,none⟩ (.slice A1 n1 c1)).setCell ⟨G,3,none⟩ p.al).setCell ⟨G,4,none⟩ (.slice B m d)).setCell ⟨G,5,none⟩ (.slice B' m' d')).setCell ⟨G,6,none⟩ L):=
   ((((((eB we _ 0 _).trans (eB _ _ 1 _)).trans (eB _ _ 2 _)).trans (eB _ _ 3 _)).trans (eB _ _ 4 _)).trans (eB _ _ 5 _)).trans (eB _ _ 6 _)
  have bW:Blk (((((((we.setCell G x.al).setCell ⟨G,1,none⟩ x.st).setCell ⟨G,2,none⟩ (.slice A1 n1 c1)).setCell ⟨G,3,none⟩ p.al).setCell ⟨G,4,none⟩ (.slice B m d)).setCell ⟨G,5,none⟩ (.slice B' m' d')).setCell ⟨G,6,none⟩ L) G 70 #[.int .i64 x.al,.int .i64 x.st,.slice A1 n1 c1,.int .i64 p.al,.slice B m d,.slice B' m' d',.int .i64 L]:=by
   simpa using ((((((bG.ab 0 (.int .i64 x.al)).ab 1 (.int .i64 x.st)).ab 2 (.slice A1 n1 c1)).ab 3 (.int .i64 p.al)).ab 4 (.slice B m d)).ab 5 (.slice B' m' d')).ab 6 (.int .i64 L)
  have Hf:=za (And.intro bW (a8.frm hf (fun k hk e=>oM)));clear hf bW a8 bD cG fG bG;go_wp2_with fail
  go_meet;exact⟨G,rfl,Hf.out⟩
 case rest =>
  obtain⟨GK,rfl,bK,aS⟩:=hcut;have cK:=bK.cell;go_upto_region 6 with fail
  obtain⟨GT,b7⟩:∃ GT,Hid (wc.heap.size=GT):=⟨_,rfl⟩;generalize U0:wc.alloc _=w2 at *;have bc:=iY U0;have bT:=eS U0;clear U0;rw [b7.out] at bT ⊢;have g:=a7.trans (aS.trans bc);replace bK:=bK.ext bc;clear cK;have cN:=bK.lt;have cO:=bT.lt;have n:=a5.ext (u.trans g);have aX:=bT.cells;have bU:=bK.cells;have bR:=fun W (hW:Ext w2 W)=>CL W (u.trans (g.trans hW));have bi:=fun W (hW:Ext w2 W)=>aW W (g.trans hW);have bo:=za (fun W (hW:Ext w2 W)=>zfY (c:=c1) (d:=d) (d':=d') (n.ext hW));rw [aR.out] at bo;have b0:=za (fun (R:Option Addr) (nr cr:Nat) (C:Option Addr) (nc cc:Nat) (rows cols:List ByteArray) W (hW:Ext w2 W) hT hI S Q af=>zbQ (c:=c1) (d:=d) (d':=d') (nr:=nr) (nc:=nc) (R:=R) (C:=C) (cr:=cr) (cc:=cc) (rows:=rows) (cols:=cols) (n.ext hW) hT hI S Q af);have bn:=za (fun (R:Option Addr) (nr cr:Nat) (C:Option Addr) (nc cc:Nat) (rows cols:List ByteArray) (x':ByteArray) W (hW:Ext w2 W) hT hI S Q af hx=>zfk (c:=c1) (d:=d) (d':=d') (nr:=nr) (nc:=nc) (R:=R) (C:=C) (cr:=cr) (cc:=cc) (rows:=rows) (cols:=cols) (x:=x') (n.ext hW) hT hI S Q af hx);have bY:=za (fun W (hW:Ext w2 W) (y':ByteArray) hy=>by
   obtain⟨lo,hi,h1,h2,h3⟩:=n.at_;exact zej (c:=c1) (d:=d) (d':=d') (L:=L) (t:=y') (h1.ext hW) (h2.ext hW) n.sv n.pv n.lt (eI h3 hW.size) hy)
  have bC:=dE w2;clear CL bQ bS aW aS bc bK bT;go_upto_region 7 with (first
   |(go_at_call 57;refine (bo.out _ bC).mono ?_;intro e w3 hret;obtain⟨a9,nr,nc,R,cr,C,cc,rfl,S,Q,a3⟩:=hret.fill (w0:=w2) (dI _);clear hret))
  obtain⟨G,hG⟩:∃ G,Hid (w3.heap.size=G):=⟨_,rfl⟩;have cJ:w2.heap.size<=G:=by rw [← hG.out];exact a9.size
  generalize U0:w3.alloc _=w6 at *;have ao:=iY U0;have b9:=eS U0;clear U0;rw [hG.out] at b9 ⊢;have aT:=a9.trans ao;have ax:TabM w2 w6 G ab:=⟨nr,nc,R,cr,C,cc,b9,S,Q,fun rs cs e=>⟨zh (a3 rs cs e).1 ao,zh (a3 rs cs e).2 ao⟩⟩;clear a3 b9 a9 ao;go_wp2_with fail
  go_loopw [10,11] (fun fv rv wr=>∃ (q:Option (List ByteArray × List ByteArray)) (j:Nat),fv=.bool q.isSome∧rv=.int .i64 j∧j<=12∧Hid (∀ rs cs,q=some (rs,cs)->j<rs.length)∧Hid (zex L (zo x p L) q)∧Hid (chT x y z p L (12 - j) j q=I)∧TabM w2 wr G q∧Ext w2 wr) (fun _ rv _=>12 - (intOf rv).toNat)
  case atStart=>exact⟨ab,0,rfl,rfl,oM,a4,az,be,ax,aT⟩
  case round =>
   clear ax aT;obtain⟨q,j,rfl,rfl,cA,aD,hok,am,ax,aa⟩:=hrel;cases q with
   |none =>
    have ah:=za (show I=⟨2,noA,noA,⟨#[]⟩,j⟩ by rw [← am.out];cases 12 - j<;>rfl)
    have F:(none:Option (List ByteArray × List ByteArray)).isSome=false:=rfl;rw [F];clear ax hok aD am F;have O:=b2.ext (g.trans aa);have kZ:=O.cell;have fZ:=O.frozen;have F2:=za (zii O rfl (.int .i64 2) (.int .i64 0) (.slice none 0 0) (.slice none 0 0) (.int .i64 0) (.slice none 0 0) (.slice none 0 0) (.string ⟨#[]⟩) (.int .i64 j));have F1:=za (zhr.cast ah.out (zij (v:=⟨2,noA,noA,⟨#[]⟩,j⟩) (u.trans (g.trans aa)) O rfl oM (zbM wr _) (zbM wr _)));clear O;go_wp2_with fail
    have ad:=F2.out.cell;simp only [noA] at F1;exact bodyPost_ret (v:=.agg #[(2:Int),(0:Int),(),(),(0:Int),(),(),.string ⟨#[]⟩,j]) (by simp [results,Tryz.results18,go_sem,ad]) rfl F1.out
   |some tab =>
    obtain⟨rs,cs⟩:=tab;obtain⟨hI,af⟩:=hok.out rs cs rfl;have hj:j<12:=by have:=aD.out rs cs rfl;have:=hI.r12;omega
    have hjl:=za (aD.out rs cs rfl);have F:(some (rs,cs)).isSome=true:=rfl;rw [F];obtain⟨nr,nc,R,cr,C,cc,b9,S,Q,br⟩:=ax;obtain⟨oR,oC⟩:=br rs cs rfl;have aN:=za (show TabAt wr R nr C nc rs cs from ⟨_,_,_,_,eW oR,eW oC⟩);have k9:=b9.cell;have cTc:=aX wr aa;have ae:=za hI;have T:=za af;have aF:=za (zbs hI af n.lt);clear hI af br F hok aD;go_upto_region 11 with (first
     |(go_at_call 58;refine (b0.out _ _ _ _ _ _ rs cs _ aa aN.out ae.out S Q T.out).mono ?_;rintro e wB ⟨Y,q1,e1,Y',aK,aC,rfl,ai,aG⟩))
    obtain⟨f,aQ⟩:∃ f,Hid (zcN L (zo x p L) rs cs=f):=⟨_,rfl⟩;rw [aQ.out] at ai aF ⊢;have hsB:=za (aa.trans aG).size;have cb:=za aa.size;have cB:=za aG.size;obtain⟨GA,b6⟩:∃ GA,Hid (wB.heap.size=GA):=⟨_,rfl⟩;generalize U0:wB.alloc _=wC at *;have ba:=iY U0;have aZ:=eS U0;have H:=ai.ext ba;clear U0;rw [b6.out] at aZ ⊢;have U:=aG.trans ba;have aB:=b9.ext U;have aJ:=zh oR U;have aI:=zh oC U;have D:=aa.trans U;have a6:=zdi Hv.out.1 aF.out Hv.out.2.2.2;have aE:=za a6.1;have cd:=za a6.2;have i:=za (show (if (zaK x y z p L f).2.1=0 then (⟨0,f,(zaK x y z p L f).2.2,⟨#[]⟩,j+1⟩:Vc) else if (zaK x y z p L f).2.1=2 then ⟨2,noA,noA,⟨#[]⟩,j+1⟩ else if (zaK x y z p L f).2.1=1 then ⟨1,noA,noA,zR [x,y,z] p,j+1⟩ else chT x y z p L (12 - (j+1)) (j+1) (zaB L (zo x p L) rs cs (zaK x y z p L f).1))=I by
     rw [← am.out,show 12 - j=(12 - (j+1))+1 by omega];show _=chT x y z p L ((12 - (j+1))+1) j (some (rs,cs));rw [chT,aQ.out])
    have Hj:=za (show zaK x y z p L f=if zbD x f p=true then (zan (zaG x f p) L,-1,noA)
     else if (vpT y z f).code=0 then (⟨#[]⟩,0,(vpT y z f).asm)
     else if (vpT y z f).code=2 then (⟨#[]⟩,2,noA)
     else (zan (vpT y z f).tr L,if zo x p L (zan (vpT y z f).tr L)=true then -1 else 1,noA) from rfl)
    have E:=za (b3.out wC.drew (u.trans (g.trans D.drew)) f Y q1 e1 Y' aK aC _ _ (H.ext ((dE wC).drew)).reads);obtain⟨uw,bA⟩:∃ uw,Hid (zaG x f p=uw):=⟨_,rfl⟩;rw [bA.out] at aE cd E Hj;have ca:=za (zbk (zaT (zcg aE.out L)));generalize zaK x y z p L f=J at *;have bj:=fun W (hW:Ext wC W)=>bi W (D.trans hW);have bh:=fun W (hW:Ext wC W)=>bR W (D.trans hW);have aV:=aZ.cells;have an:=dE wC;clear am b9 oR oC ai k9 cTc aN a6 ba aG U aa;cases hub:zbD x f p
    ·rw [hub] at E Hj;clear hub;have ar:=za (show J=if (vpT y z f).code=0 then (⟨#[]⟩,0,(vpT y z f).asm) else if (vpT y z f).code=2 then (⟨#[]⟩,2,noA) else (zan (vpT y z f).tr L,if zo x p L (zan (vpT y z f).tr L)=true then -1 else 1,noA) by rw [Hj.out];rfl);have ce:=za (zhp Hv.out.2.1 Hv.out.2.2.1 aF.out);refine uR (fun X=>Ext wC X) [5] (zw.of [0,1,2,3,4,5,6,7,8,9,10]) ?_;refine uQ ?_;refine zb fun K hK=>?_;go_simp;refine E.out.mono (mQ fun wD V=>?_);have M:=an.drew.trans V;clear V;refine hK.out _ _ ?_;refine pT ?_;refine uQ ?_;refine zg ?_;have aw:=za (zaX (s:=uw) (a:=L) (w:=wD) aE.out oM);have bm:=za (fun W (hW:Ext wC W)=>HJ.out W (u.trans (g.trans (D.trans hW))) f Y q1 e1 Y' aK aC _ _ (H.ext hW).reads aF.out);generalize vpT y z f=v at *;have bk:=fun W (hW:Ext wC W)=>bU W (D.trans hW);go_upto_region 15 with (first
      |(go_at_call 60;refine aw.out.mono (mQ fun cT ap=>?_);replace M:=M.trans ap)
      |(go_at_call 61;refine (bm.out _ M).mono ?_;rintro e wJ ⟨Z1,z1,y1,Z2,z2,y2,rfl,bt,bb⟩))
     obtain⟨GV,b8⟩:∃ GV,Hid (wJ.heap.size=GV):=⟨_,rfl⟩;have cR:=(u.trans (g.trans (D.trans M))).size;generalize U0:wJ.alloc _=wE at *;have aH:=iY U0;have a0:=eS U0;have hxE:Ext w2 wE:=D.trans (M.trans (bb.trans aH));have l:Ext wC wE:=M.trans (bb.trans aH);have aj:=H.ext l;have ay:=bt.ext aH;have b9E:=aB.ext l;have oRE:=zh aJ l;have oCE:=zh aI l;clear U0;rw [b8.out] at a0 ⊢;have bF:=a0.cell;have aL:=aV wE l;clear an aV bj bh aH bt bb M aB aJ aI H E aw bm
     by_cases hv0:v.code=0
     ·have ah:=za (show I=⟨0,f,v.asm,⟨#[]⟩,j+1⟩ by rw [← i.out,ar.out,if_pos hv0];rfl);have e0:(v.code==0)=true:=by simpa using hv0
      clear i ar Hj b9E oRE oCE hv0;have O:=b2.ext (g.trans hxE);have kZ:=O.cell;have fZ:=O.frozen;have F2:=za (zii O rfl (.int .i64 0) (.int .i64 f.al) (.slice Y q1 e1) (.slice Y' aK aC) (.int .i64 v.asm.al) (.slice Z1 z1 y1) (.slice Z2 z2 y2) (.string ⟨#[]⟩) (.int .i64 ((j:Int)+1)));have F1:=za (zhr.cast ah.out (zij (v:=⟨0,f,v.asm,⟨#[]⟩,j+1⟩) (u.trans (g.trans hxE)) O rfl oM (aj.less (by have:=u.size;have:=g.size;have:=cb.out;omega)) (ay.less oM)));clear O;go_wp2_with fail
      have ad:=F2.out.cell;simp only [iT,jY] at F1;exact bodyPost_ret (v:=.agg #[(0:Int),f.al,.slice Y q1 e1,.slice Y' aK aC,v.asm.al,.slice Z1 z1 y1,.slice Z2 z2 y2,.string ⟨#[]⟩,((j:Int)+1:Int)]) (by simp [results,Tryz.results18,go_sem,ad]) rfl F1.out
     ·by_cases hv2:v.code=2
      ·have ah:=za (show I=⟨2,noA,noA,⟨#[]⟩,j+1⟩ by rw [← i.out,ar.out,if_neg hv0,if_pos hv2];rfl);have e0:(v.code==0)=false:=by simpa using hv0
       have e2:(v.code==2)=true:=by simpa using hv2
       clear i ar Hj b9E oRE oCE hv0 hv2 aj ay;have O:=b2.ext (g.trans hxE);have kZ:=O.cell;have fZ:=O.frozen;have F2:=za (zii O rfl (.int .i64 2) (.int .i64 0) (.slice none 0 0) (.slice none 0 0) (.int .i64 0) (.slice none 0 0) (.slice none 0 0) (.string ⟨#[]⟩) (.int .i64 ((j:Int)+1)));have F1:=za (zhr.cast ah.out (zij (v:=⟨2,noA,noA,⟨#[]⟩,j+1⟩) (u.trans (g.trans hxE)) O rfl oM (zbM wE _) (zbM wE _)));clear O;go_wp2_with fail
       have ad:=F2.out.cell;simp only [noA,iT,jY] at F1;exact bodyPost_ret (v:=.agg #[(2:Int),(0:Int),(),(),(0:Int),(),(),.string ⟨#[]⟩,((j:Int)+1:Int)]) (by simp [results,Tryz.results18,go_sem,ad]) rfl F1.out
      ·have e0:(v.code==0)=false:=by simpa using hv0
       have e2:(v.code==2)=false:=by simpa using hv2
       have bx:=za (zbk (zaT (zcg ce.out L)));have bq:=bk wE l;obtain⟨sf,bz⟩:∃ sf,Hid (zo x p L (zan v.tr L)=sf):=⟨_,rfl⟩;have av:=za (bY.out wE hxE (zan v.tr L) (oH bx.out));rw [bz.out] at av;have a2:=za (show J=(zan v.tr L,if sf=true then -1 else 1,noA) by rw [ar.out,if_neg hv0,if_neg hv2,bz.out]);generalize zan v.tr L=rw_ at *;clear ar Hj hv0 hv2 aj ay;cases sf
       ·have ah:=za (show I=⟨1,noA,noA,zR [x,y,z] p,j+1⟩ by rw [← i.out,a2.out];rfl);clear i b9E oRE oCE;go_upto_region 21 with (first
         |(go_at_call 62;refine av.out.mono (mQ fun wF hxF=>?_)))
        have aq:=hxE.trans hxF;have cP:=bi wF aq;have bV:=za (bX.out wF (u.trans (g.trans aq)) ((j:Int)+1));clear bq bF aL av;generalize zR [x,y,z] p=bw at *;have ag:=za (fun W (hW:Ext wF W)=>show Blk W Z 33 #[(0:Int),(0:Int),(),(),(0:Int),(),(),.string ⟨#[]⟩,(0:Int)] from b2.ext (g.trans (aq.trans hW)));go_wp2_with (first
         |(go_at_call 63;refine bV.out.mono (mQ fun wG hxG=>?_);have kZ:=(ag.out wG hxG).cell;have fZ:=(ag.out wG hxG).frozen))
        have O:=ag.out wG hxG;have F2:=zii O rfl (.int .i64 1) (.int .i64 0) (.slice none 0 0) (.slice none 0 0) (.int .i64 0) (.slice none 0 0) (.slice none 0 0) (.string bw) (.int .i64 ((j:Int)+1));have F1:=zhr.cast ah.out (zij (v:=⟨1,noA,noA,bw,j+1⟩) (u.trans (g.trans (aq.trans hxG))) O rfl oM (zbM wG _) (zbM wG _));have ad:=F2.cell;simp only [noA,iT,jY] at F1;exact bodyPost_ret (v:=.agg #[(1:Int),(0:Int),(),(),(0:Int),(),(),bw,((j:Int)+1:Int)]) (by simp [results,Tryz.results18,go_sem,ad]) rfl F1
       ·have hrunL:=za (show chT x y z p L (12 - (j+1)) (j+1) (zaB L (zo x p L) rs cs rw_)=I by
         have:=i.out;rw [a2.out] at this;exact this)
        clear i a2;go_upto_region 22 with (first
         |(go_at_call 62;refine av.out.mono (mQ fun wF hxF=>?_)))
        replace hxE:=hxE.trans hxF;replace b9E:=b9E.ext hxF;replace oRE:=zh oRE hxF;replace oCE:=zh oCE hxF;clear bq bF aL av l a0;obtain⟨wE,cf⟩:∃ wE,wE=wF:=⟨_,rfl⟩;subst cf;have hokL:=za (zex.ao ae.out rw_);have hmore:=za (fun rs' cs' (e:zaB L (zo x p L) rs cs rw_=some (rs',cs'))=>(zfu ae.out T.out e).1);have cTc:=aX wE hxE;have k9:=b9E.cell;have HTatE:=za (show TabAt wE R nr C nc rs cs from ⟨_,_,_,_,eW oRE,eW oCE⟩);go_upto_region 24 with (first
         |(go_at_call 64;refine (bn.out _ _ _ _ _ _ rs cs rw_ _ hxE HTatE.out ae.out S Q T.out (oH bx.out)).mono ?_;intro e wF hret;obtain⟨hxF,nr2,nc2,R2,cr2,C2,cc2,rfl,hcr2,hcc2,hT2⟩:=hret.fill (w0:=w2) hxE.size;clear hret))
        exact yY15a1
    ·rw [hub] at E Hj;clear hub;have hrunL:=za (show chT x y z p L (12 - (j+1)) (j+1) (zaB L (zo x p L) rs cs (zan uw L))=I by
      have:=i.out;rw [Hj.out] at this;exact this)
     clear i;refine uR (fun X=>Ext wC X) [5] (zw.of [0,1,2,3,4,5,6,7,8,9,10]) ?_;refine uQ ?_;refine zb fun K hK=>?_;go_simp;refine E.out.mono (mQ fun wD V=>?_);have M:=an.drew.trans V;clear V;refine hK.out _ _ ?_;refine pT ?_;refine uQ ?_;refine zg ?_;have aw:=za (zaX (s:=uw) (a:=L) (w:=wD) aE.out oM);generalize zan uw L=rw_ at *;go_upto_region 23 with (first
      |(go_at_call 60;refine aw.out.mono (mQ fun wE ap=>?_)))
     have l:=M.trans ap;have hxE:=D.trans l;have b9E:=aB.ext l;have oRE:=zh aJ l;have oCE:=zh aI l;clear an aV bj bh M ap aB aJ aI H E aw aZ l;have hokL:=za (zex.ao ae.out rw_);have hmore:=za (fun rs' cs' (e:zaB L (zo x p L) rs cs rw_=some (rs',cs'))=>(zfu ae.out T.out e).1);have cTc:=aX wE hxE;have k9:=b9E.cell;have HTatE:=za (show TabAt wE R nr C nc rs cs from ⟨_,_,_,_,eW oRE,eW oCE⟩);go_upto_region 24 with (first
      |(go_at_call 64;refine (bn.out _ _ _ _ _ _ rs cs rw_ _ hxE HTatE.out ae.out S Q T.out (oH ca.out)).mono ?_;intro e wF hret;obtain⟨hxF,nr2,nc2,R2,cr2,C2,cc2,rfl,hcr2,hcc2,hT2⟩:=hret.fill (w0:=w2) hxE.size;clear hret))
     exact yY15a1
end
section
variable {w:World} {lo1 hi1 lo2 hi2 k c2 k1 d1 k1' d1':Nat} {C X X':Option Addr} {t:Sys} {a:Aut}
theorem zfs (ht:zV w lo2 hi2 C k t)(ha:zF w lo1 hi1 X k1 X' k1' a)(hT:Tab w) :
  Calls Tryz.prog 161 #[.agg #[t.al,t.st,.slice C k c2],.agg #[a.al,.slice X k1 d1,.slice X' k1' d1']] w fun e w'=>e=.returned (.tuple #[.string (zR [t] a),.bool (zbf [t] a)])∧Ext w w':=by
 have n:=za (fun W (hW:Ext w W)=>ht.ext hW);have j:=za (fun W (hW:Ext w W)=>ha.ext hW);have l:=za (fun W (hW:Ext w W)=>hT.ext hW);clear ht ha hT
 go_enter Tryz.func161,Tryz.ntmps161
 go_upto_region 1 with fail
 generalize U0:(w.alloc _).alloc _=i at *;obtain⟨d,o,p⟩:=iS U0;clear U0;have u:=o.cell;have b:=(dE i).alloc (.cells #[t.al,t.st,.slice C k c2] 38);have h:=eX i 38 #[t.al,t.st,.slice C k c2];obtain⟨s,r,f⟩:=sl_one h (n.out _ (d.trans b));have q:=(p.ext b).cell;have m:=za (zbL (c:=1) (d2:=d1) (d2':=d1') f (j.out _ (d.trans b)) (l.out _ (d.trans b)));clear f h;go_wp2_with fail
 refine m.out.mono (mQ fun w2 g=>?_);go_wp2_with fail
 go_ret2;exact⟨rfl,(d.trans b).trans g⟩
end
section
variable {w:World} {lo hi n c lo1 hi1 m d m' d' lo2 hi2 k c2:Nat} {A B B' C:Option Addr} {s t:Sys} {p:Aut}
theorem zhw {P:Program} (w:World) (d:Nat) (t:TypeId) {ps rs:Array TypeId} (h:P.underlying t=some (.func ps rs v)):(Op.equalIn (d+1) t .nilFunc .nilFunc).run P w=.ok true w:=by
 simp [Op.equalIn,run_underlying h]
@[go_sem] theorem neq_nilFunc {P:Program} (w:World) (t:TypeId) {ps rs:Array TypeId}  (h:P.underlying t=some (.func ps rs v)):(binOp .neq t .nilFunc .nilFunc).run P w=.ok (.bool false) w:=by
 simp only [binOp];simp [show (Op.equal t .nilFunc .nilFunc).run P w=.ok true w from zhw w 9999 t h]
@[go_sem] theorem neq_nilFuncP (w:World):(binOp .neq 197 .nilFunc .nilFunc).run Tryz.prog w=.ok (.bool false) w:=neq_nilFunc w _ rfl
theorem zjb (kn:Nat) (rc:Value) (X:World) (g:Nat)(h1:(X.cell? ⟨g,1,none⟩).isSome=true)(h2:X.frozen? ⟨g,1,none⟩=false):(store ⟨g,1,none⟩ (.func (.func kn) #[rc] #[])).run Tryz.prog X=.ok () (X.setCell ⟨g,1,none⟩ (.func (.func kn) #[rc] #[])):=by
 rw [run_store _ _ _ _ _ rfl];obtain⟨u,a⟩:=Option.isSome_iff_exists.1 h1;rw [a,h2];rfl
theorem vd_fin {a0 a1 a2 a3 a4 a5:Value}(hx:Ext w W)(hb:Blk W Z 42 #[a0,a1,a2,a3,a4,a5])(hZ:w.heap.size<=Z) (u0 u1 u2 u3 u4 u5:Value) :
  Blk ((((((W.setCell Z u0).setCell ⟨Z,1,none⟩ u1).setCell ⟨Z,2,none⟩ u2).setCell ⟨Z,3,none⟩ u3).setCell ⟨Z,4,none⟩ u4).setCell ⟨Z,5,none⟩ u5) Z 42 #[u0,u1,u2,u3,u4,u5] ∧
  Frm (fun k=>k=Z) W ((((((W.setCell Z u0).setCell ⟨Z,1,none⟩ u1).setCell ⟨Z,2,none⟩ u2).setCell ⟨Z,3,none⟩ u3).setCell ⟨Z,4,none⟩ u4).setCell ⟨Z,5,none⟩ u5) ∧
  Ext w ((((((W.setCell Z u0).setCell ⟨Z,1,none⟩ u1).setCell ⟨Z,2,none⟩ u2).setCell ⟨Z,3,none⟩ u3).setCell ⟨Z,4,none⟩ u4).setCell ⟨Z,5,none⟩ u5):=by
 have hf:=zdC W Z u0 u1 u2 u3 u4 u5;exact⟨by simpa using (((((hb.ab 0 u0).ab 1 u1).ab 2 u2).ab 3 u3).ab 4 u4).ab 5 u5,hf,hx.frm hf (fun q hq e=>by have e':q=Z:=e;omega)⟩
def TabV3 (W:World) (S:Nat->Prop) (base g:Nat) (o:Option (List ByteArray × List ByteArray)):Prop:=
 ¬ S g∧((o=none∧∃ u v,Blk W g 90 #[u,v])∨∃ (rs cs:List ByteArray) (R C:Option Addr) (cr cc:Nat),o=some (rs,cs)∧Blk W g 90 #[.slice R rs.length cr,.slice C cs.length cc]∧zhb W S base R rs.length cr C cs.length cc rs cs)
theorem zeX {S:Nat->Prop} {cr2 cc2:Nat} {R2 C2:Option Addr} {u v:Value} {rs2 cs2:List ByteArray}(hb:Blk W g 90 #[u,v])(hg:¬ S g)(ht:zhb W S base' R2 rs2.length cr2 C2 cs2.length cc2 rs2 cs2)(h1:base<=base')(h2:g<base') :
  TabV3 ((W.setCell g (.slice R2 rs2.length cr2)).setCell ⟨g,1,none⟩ (.slice C2 cs2.length cc2)) S base g (some (rs2,cs2)):=by
 have h:=(ht.r.frm (eB W g 0 (.slice R2 rs2.length cr2)) (fun b hb e=>by have:=(ht.r.own.lt b hb).1;have e':b=g:=e;omega));have f:=(ht.c.frm (eB W g 0 (.slice R2 rs2.length cr2)) (fun b hb e=>by have:=(ht.c.own.lt b hb).1;have e':b=g:=e;omega));have d:=(h.frm (eB _ g 1 (.slice C2 cs2.length cc2)) (fun b hb e=>by have:=(h.own.lt b hb).1;have e':b=g:=e;omega));have a:=(f.frm (eB _ g 1 (.slice C2 cs2.length cc2)) (fun b hb e=>by have:=(f.own.lt b hb).1;have e':b=g:=e;omega));exact⟨hg,.inr ⟨rs2,cs2,R2,C2,cr2,cc2,rfl,by simpa using (hb.ab 0 (.slice R2 rs2.length cr2)).ab 1 (.slice C2 cs2.length cc2),⟨⟨zq d.own h1,d.far⟩,⟨zq a.own h1,a.far⟩⟩⟩⟩
theorem zhE (hs:zV w lo hi A n s)(hp:zF w lo1 hi1 B m B' m' p)(ht:zV w lo2 hi2 C k t)(hif:iface s p t=(L:Int))(hn:n<=1000000)(hT:Tab w) :
  Calls Tryz.prog 72 #[.agg #[s.al,s.st,.slice A n c],.agg #[t.al,t.st,.slice C k c2],.agg #[p.al,.slice B m d,.slice B' m' d'],.nilFunc] w (zji w (vpT s t p)):=by
 obtain⟨vs,vp,vt⟩:=zbz (show 0<=iface s p t by omega);have ci:=za (fun W (hW:Ext w W)=>impl_TaskOf (c:=c) (d:=d) (d':=d') (c2:=c2) (hs.ext hW) (hp.ext hW) (ht.ext hW) hif hn);have HS:=za (fun W (hW:Ext w W)=>hs.ext hW);have HP:=za (fun W (hW:Ext w W)=>hp.ext hW);have cj:=za (fun W (hW:Ext w W)=>ht.ext hW);have ch:=za (fun W (hW:Ext w W)=>show Calls Tryz.prog 30 #[.slice (some W.heap.size) 2 2,.agg #[p.al,.slice B m d,.slice B' m' d']] (W.alloc (.cells #[s.al,s.st,.slice A n c,t.al,t.st,.slice C k c2] 38)) (fun e w'=>e=.returned (.tuple #[.string (zR [s,t] p),.bool (zbf [s,t] p)])∧Ext W w') from by
  have f6:=(dE W).alloc (.cells #[s.al,s.st,.slice A n c,t.al,t.st,.slice C k c2] 38);obtain⟨l1,l2,cC⟩:=sl_pair (eX W 38 #[s.al,s.st,.slice A n c,t.al,t.st,.slice C k c2]) (hs.ext (hW.trans f6)) (ht.ext (hW.trans f6));exact (zbL cC (hp.ext (hW.trans f6)) (hT.ext (hW.trans f6))).mono (fun e w' h=>⟨h.1,f6.trans h.2⟩))
 have cE:=za (zgD hif);have ap:=za hT;clear hs hp ht hT
 go_enter Tryz.func72,Tryz.ntmps72
 go_upto_region 1 with fail
 obtain⟨w1,U0⟩:∃ x,Hid ((((w.alloc (.cells #[s.al,s.st,.slice A n c] 38)).alloc (.cells #[t.al,t.st,.slice C k c2] 38)).alloc (.cells #[p.al,.slice B m d,.slice B' m' d'] 27)).alloc (.cells #[(0:Int),(0:Int),(),(),.string ⟨#[]⟩,(0:Int)] 42)=x):=⟨_,za rfl⟩;obtain⟨b4,b5,b6⟩:=zU (((dE _).alloc (.cells #[(0:Int),(0:Int),(),(),.string ⟨#[]⟩,(0:Int)] 42)).trans (gO U0.out));have b8:=eS U0.out;simp only [World.size_alloc] at b8;have aO:Ext w w1:=(((((dE _).alloc _).alloc _).alloc _).alloc _).trans (gO U0.out);rw [U0.out] at *;have k4:=b4.cell;have k5:=b5.cell;have k6:=b6.cell;go_upto_region 4 with (go_at_call 39;refine (ci.out _ aO).mono ?_;rintro e w2 ⟨A1,n1,c1,B1,m1,d1,bn,bV,d1',rfl,cy,aX⟩)
 have aS:=cy.ext ((dE w2).alloc (.cells #[s.al,s.st,.slice A1 n1 c1,p.al,.slice B1 m1 d1,.slice bn bV d1',L] 70));have M:=aX.trans ((dE w2).alloc (.cells #[s.al,s.st,.slice A1 n1 c1,p.al,.slice B1 m1 d1,.slice bn bV d1',L] 70));generalize U0:w2.alloc _=w3 at *;have b9:=eS U0;clear U0;have k9:=b9.cell;obtain⟨dt,dq,cB,cA,cz⟩:=aS.at_;have hL:=aS.lt;have bR:=za (zfg (c:=c1) (d:=d1) (d':=d1') (dE w3) cB cA vs vp hL cz (ap.out.ext (aO.trans M)));have bS:=zjb (122);go_upto_region 5 with (go_at_call 49;refine bR.out.mono ?_;rintro e w4 ⟨F,S0,rfl,hok,cw,cv,cu,bC,dn,hJ,aY⟩)
 have hO:=za (show zfE w3.heap.size L (zo s p L) (zhs F) 122 (.pointer (some ⟨F.G,0,none⟩)) by
  have:=sf_orc hok;rwa [cw,cv,cu,bC] at this)
 have ag:=za (fun (q:Nat) (hq:w4.heap.size<=q)=>zbx.fresh hO.out.ok hJ hq);generalize U0:w4.alloc _=w5 at *;obtain⟨az,a2⟩:=Ext.x1_ U0;have bL:=hO.out.ok.keep hJ az (fun _ _ h=>h.elim);have O:=aY.trans az;clear U0;have ae:=a2.cell;have bP:=za (zhR hO.out bL oM O.size hL);have c7:=aY.size;go_upto_region 99 with fail
 refine bP.out.mono ?_;rintro e w6 ⟨S6,aK,U⟩;rcases U with ⟨bO,rfl⟩|⟨bj,a3,R0,C0,bz,bw,bQ,rfl,bF⟩
 ·obtain⟨r,hr⟩:=zhN L (zo s p L);rw [hr] at bO;cases bO
 obtain⟨w7,U0⟩:∃ x,Hid (w6.alloc (.cells #[.slice R0 bj.length bz,.slice C0 a3.length bw] 90)=x):=⟨_,za rfl⟩;have i:=eS U0.out;have aZ:Ext w6 w7:=((dE _).alloc _).trans (gO U0.out);obtain⟨a6,l⟩:∃ g,Hid (g=w6.heap.size):=⟨_,za rfl⟩;have bE:=za (fun (q:Nat) (hq:w6.heap.size<=q)=>zbx.fresh hO.out.ok aK.j hq);go_upto_region 6 with fail
 rw [← l.out] at i ⊢;rw [U0.out] at *;have u:=za (show ∀ q:Nat,S0 q->w3.heap.size<=q from fun q h=>by have:=hO.out.ok.low bL q h;omega);have bM:=za ((aK.ext hO.out.ok aZ).more hO.out.ok (show 0+21840<=21840+30000*0 by omega));obtain⟨o0,aN⟩:∃ o0:Option (List ByteArray × List ByteArray),Hid ((zX L (zo s p L) [⟨#[]⟩] 11 [⟨#[]⟩]).map (fun r=>(r,[(⟨#[]⟩:ByteArray)]))=o0):=⟨_,za rfl⟩;have ax:o0=some (bj,a3):=aN.out.symm.trans bQ;have aT:=za (show LnOk L (zo s p L) 0 o0 by rw [← aN.out];exact LnOk.start L (zo s p L));have aU:=za (show runT s t p L (12 - 0) 0 o0=vpT s t p by rw [cE.out,← aN.out]);have aV:o0.isSome=true:=by rw [ax];rfl
 have aW:=za (show TabV3 w7 S6 w5.heap.size a6 o0 from ⟨bE.out a6 (oH l.out),.inr ⟨bj,a3,R0,C0,bz,bw,ax,i,bF.ext aZ⟩⟩);have c5:=aX.size;have c6:=M.size;have c8:=az.size;have c9:=aK.size;have cW:=b4.lt;have cX:=b8.lt;have cY:=b9.lt;have B4:=za ((b4.ext M).ext O);have B5:=za ((b5.ext M).ext O);have B6:=za ((b6.ext M).ext O);have B8:=za ((b8.ext M).ext O);have B9:=za (b9.ext O);have aG:=za a2;have dp:w.heap.size<=w5.heap.size:=(aO.trans (M.trans O)).size;have aB:=za (aO.trans (M.trans O));clear k4 k5 k6 k9 ae b4 b5 b6 b8 b9 a2 bF i aK bP bR bS bQ;go_wp2_with fail
 go_loopw [10,14,15,16,17,18,19,20] (fun v10 v14 _ _ _ _ _ _ wr=>∃ (r:Nat) (o:Option (List ByteArray × List ByteArray)) (S1:Nat->Prop),v10=.bool o.isSome∧v14=.int .i64 ((r:Int)+1)∧r<=12∧Hid (Kp (zhs F) (21840+30000*r) S0 w5 wr S1)∧Hid (TabV3 wr S1 w5.heap.size a6 o)∧Hid (LnOk L (zo s p L) r o)∧Hid (runT s t p L (12 - r) r o=vpT s t p)) (fun _ v14 _ _ _ _ _ _ _=>14 - (intOf v14).toNat)
 case atStart=>exact⟨0,o0,S6,by rw [aV],rfl,eC _,bM,aW,aT,aU⟩
 case round =>
  clear bM aW aT aU aV ax aN;obtain⟨r,o,S1,rfl,rfl,hr,am,bT,aL,bb⟩:=hrel;have T:=am.out.blk B8.out (fun h=>by have:=u.out _ h;omega);cases o with
  |none =>
   have hv:=za (show vpT s t p=⟨2,noA,⟨#[]⟩,r⟩ by
    rw [← bb.out];cases h12:12 - r with
    |zero=>rfl
    |succ f=>rfl)
   have k8:=T.1.cell;have f8:=T.1.frozen;go_wp2_with fail
   have cF:Ext w wr:=aB.out.frm am.out.frm (fun q hq hs=>by have:=u.out q hs;omega);have S:=vd_fin cF T.1 oM (.int .i64 2) (.int .i64 0) (.slice none 0 0) (.slice none 0 0) (.string ⟨#[]⟩) (.int .i64 r);have cf:=S.1.cell;have Hx:=za S.2.2;clear S k8 f8 T;generalize ((((((wr.setCell ⟨w.heap.size+1+1+1,0,none⟩ (2:Int)).setCell ⟨w.heap.size+1+1+1,1,none⟩ (0:Int)).setCell ⟨w.heap.size+1+1+1,2,none⟩ ()).setCell ⟨w.heap.size+1+1+1,3,none⟩ ()).setCell ⟨w.heap.size+1+1+1,4,none⟩ (.string ⟨#[]⟩)).setCell ⟨w.heap.size+1+1+1,5,none⟩ r)=X at *;exact bodyPost_ret (v:=.agg #[(2:Int),(0:Int),(),(),.string ⟨#[]⟩,r]) (by simp [results,Tryz.results72,go_sem,cf]) rfl (by
    rw [hv.out];exact⟨none,0,0,none,0,0,rfl,zbM _ _,Hx.out⟩)
  |some tab =>
   obtain⟨rs,cs⟩:=tab;obtain⟨bJ,cx⟩:=bT.out;rcases cx with ⟨h0,_⟩|⟨rs',cs',R,C1,cr,cc,h0,a8,be⟩
   ·cases h0
   obtain⟨rfl,rfl⟩:=Prod.mk.inj (Option.some.inj h0);obtain⟨hI,aI⟩:=aL.out.tab rs cs rfl;have cZ:w5.heap.size<=wr.heap.size:=am.out.size;have a7:=za (zeF hO.out am.out.j oM be hI aI oM hL);have bf:=za (zbs hI aI hL);obtain⟨a,bG⟩:∃ a,Hid (zcN L (zo s p L) rs cs=a):=⟨_,za rfl⟩;rw [bG.out] at a7 bf;have k8:=T.1.cell;have f8:=T.1.frozen;have au:=am.out.blk aG.out (ag.out _ (dI _));have ae:=au.1.cell;have aE:=a8.cell;have bp:=za be;have a1:=za a8;clear bT be a8 h0;go_upto_region 11 with (go_at_call 51;refine a7.out.mono ?_;rintro e w8 ⟨S2,AA,aF,an,ac,aq,ai,rfl,bB,ak⟩)
   have a9:=am.out.trans ak;have bK:=za (ak.out a1.out.lt bJ);have cV:=za (fun (q:Nat) (hq:w8.heap.size<=q)=>zbx.fresh hO.out.ok a9.j hq);have c0:=ak.size;generalize U0:w8.alloc _=w9 at *;obtain⟨Q,av⟩:=Ext.x1_ U0;have ad:=za (a9.ext hO.out.ok Q);have ar:=za (bB.ext Q);have aQ:=za ((ak.blk a1.out bJ).1.ext Q);have aR:=za ((bp.out.kp ak).ext Q);clear U0;have Z:=za (show Ext w w9 from ad.out.av aB.out (fun q hs=>by have:=u.out q hs;omega));have ck:=za (zdb (c:=c) (d1:=ac) (d1':=ai) (d2:=d) (d2':=d') (HS.out _ Z.out) ar.out.own_.reads (HP.out _ Z.out) (ap.out.ext Z.out));have ce:=za (fun W (hW:Ext w9 W)=>zfs (c2:=c2) (k1:=an) (d1:=ac) (k1':=aq) (d1':=ai) (cj.out _ (Z.out.trans hW)) (ar.out.own_.reads.ext hW) (ap.out.ext (Z.out.trans hW)));have k4:=(ad.out.blk B4.out (fun h=>by have:=u.out _ h;omega)).1.cell;have k6:=(ad.out.blk B6.out (fun h=>by have:=u.out _ h;omega)).1.cell;have ds:=av.cell;have bo:=za (ad.out.blk B9.out (fun h=>by have:=u.out _ h;omega)).1;clear a7 bB ak a9 bp a1 k8 f8 T ae aE au;go_upto_region 14 with (go_at_call 52;refine ck.out.mono (mQ fun cJ Y=>?_))
   have c4:r<12:=by have:=aL.out.more rs cs rfl;have:=hI.r12;omega
   have ah:=za (show (if (zaP s p t L a).2=0 then (⟨0,a,⟨#[]⟩,r+1⟩:Vd) else if (zaP s p t L a).2=1 then ⟨1,noA,zR [s,t] p,r+1⟩ else runT s t p L (11 - r) (r+1) (zaB L (zo s p L) rs cs (zaP s p t L a).1))=vpT s t p by
    rw [← bb.out,show 12 - r=(11 - r)+1 by omega,runT,bG.out])
   clear bb;have bh:=za (zdi vs bf.out vp);have bg:=za (zcX (ss:=[t]) (p:=a) (by unfold zy;simp [vt]) bf.out);have bI:=ad.out.blk B8.out (fun h=>by have:=u.out _ h;omega);have cS:=za (Z.out.trans Y);cases hub:zbD s a p with
   |false =>
    have k5:=((ad.out.blk B5.out (fun h=>by have:=u.out _ h;omega)).1.ext Y).cell;have bu:=(av.ext Y).cell;go_upto_region 17 with (go_at_call 161;refine (ce.out _ Y).mono (mQ fun bW bU=>?_))
    have I:=Y.trans bU;have dm:=(av.ext I).cell;cases hbb:zbf [t] a with
    |false =>
     have hv:=za (show vpT s t p=⟨0,a,⟨#[]⟩,r+1⟩ by
      rw [← ah.out];have hj:zaP s p t L a=(⟨#[]⟩,0):=by unfold zaP;rw [if_neg (by simp [hub]),if_neg (by simp [hbb])]
      rw [hj,if_pos rfl])
     have E:=bI.1.ext I;have k8:=E.cell;have f8:=E.frozen;clear bu;go_wp2_with fail
     have S:=vd_fin (Z.out.trans I) E oM (.int .i64 0) (.int .i64 a.al) (.slice AA an ac) (.slice aF aq ai) (.string ⟨#[]⟩) (.int .i64 ((r:Int)+1));have cf:=S.1.cell;have Hx:=za S.2.2;have Ho:=za (((ar.out.own_.ext I).keep S.2.1 (fun b hb e=>by have e':b=w.heap.size+1+1+1:=e;omega)).less (show w.heap.size<=wr.heap.size by omega));clear S k8 f8 E;generalize ((((((bW.setCell ⟨w.heap.size+1+1+1,0,none⟩ (0:Int)).setCell ⟨w.heap.size+1+1+1,1,none⟩ a.al).setCell ⟨w.heap.size+1+1+1,2,none⟩ (.slice AA an ac)).setCell ⟨w.heap.size+1+1+1,3,none⟩ (.slice aF aq ai)).setCell ⟨w.heap.size+1+1+1,4,none⟩ (.string ⟨#[]⟩)).setCell ⟨w.heap.size+1+1+1,5,none⟩ (.int .i64 ((r:Int)+1)))=X at *;exact bodyPost_ret (v:=.agg #[(0:Int),a.al,.slice AA an ac,.slice aF aq ai,.string ⟨#[]⟩,((r:Int)+1:Int)]) (by simp [results,Tryz.results72,go_sem,cf]) rfl (by
      rw [hv.out];exact⟨AA,an,ac,aF,aq,ai,sM,Ho.out,Hx.out⟩)
    |true =>
     have aj:=za (show zaP s p t L a=(zan (zR [t] a) L,if zo s p L (zan (zR [t] a) L)=true then -1 else 1) by unfold zaP;rw [if_neg (by simp [hub]),if_pos hbb]);have aC:=zcg bg.out.1 L;have aD:(zan (zR [t] a) L).size<=4000:=by have:=zdP (zR [t] a) L;have:=bg.out.2;simp only [List.length_cons,List.length_nil] at this;omega
     have ay:=za (zcR (s:=zR [t] a) (a:=L) (w:=bW) bg.out.1 oM);have k9:=(bo.out.ext I).cell;obtain⟨z,hz⟩:∃ z,Hid (zan (zR [t] a) L=z):=⟨_,za rfl⟩;rw [hz.out] at aC aD aj ay;have aH:=za aC;clear bu;go_upto_region 20 with (go_at_call 53;refine ay.out.mono (mQ fun bX af=>?_))
     have y:=I.trans af;have V:=za (ad.out.ext hO.out.ok y);have bH:=za (hO.out.ask _ bX S2 z V.out.j oM aH.out oM);have ae:=(V.out.blk aG.out (ag.out _ (dI _))).1.cell;clear k9;go_upto_region 99 with fail
     refine bH.out.mono ?_;rintro e aP ⟨S4,rfl,aJ⟩;have J:=za (V.out.trans aJ);have aA:=za (show Ext w aP from J.out.av aB.out (fun q hs=>by have:=u.out q hs;omega));have i:=aJ.blk (aQ.out.ext y) bK.out;have cl:=za ((aR.out.ext y).kp aJ);have cD:=aJ.size;cases hsf:zo s p L z with
     |false =>
      have hv:=za (show vpT s t p=⟨1,noA,zR [s,t] p,r+1⟩ by
       rw [← ah.out,aj.out,if_neg (show ¬ zo s p L z=true by rw [hsf];decide),if_neg (show ¬ ((1:Int)=0) by decide),if_pos (show (1:Int)=1 from rfl)])
      have HP:=za (ch.out aP aA.out);have k4:=(J.out.blk B4.out (fun h=>by have:=u.out _ h;omega)).1.cell;have k5:=(J.out.blk B5.out (fun h=>by have:=u.out _ h;omega)).1.cell;have bt:=(J.out.blk B6.out (fun h=>by have:=u.out _ h;omega)).1;have k6:∀ (v:Array Value) (q:Nat),(aP.alloc (.cells v 38)).cell? ⟨w.heap.size+1+1,q,none⟩=_:=fun v q=>(bt.ext ((dE aP).alloc (.cells v 38))).cell q;have cp:=(J.out.blk B8.out (fun h=>by have:=u.out _ h;omega)).1;clear ae;go_upto_region 99 with fail
      refine HP.out.mono (mQ fun wF hxF=>?_);have E:=cp.ext hxF;have k8:=E.cell;have f8:=E.frozen;clear k4 k5 k6 bt;go_wp2_with fail
      have S:=vd_fin (aA.out.trans hxF) E oM (.int .i64 1) (.int .i64 0) (.slice none 0 0) (.slice none 0 0) (.string (zR [s,t] p)) (.int .i64 ((r:Int)+1));have cf:=S.1.cell;have Hx:=za S.2.2;clear S k8 f8 E;generalize (((((wF.setCell ⟨w.heap.size+1+1+1,0,none⟩ (1:Int)).setCell ⟨w.heap.size+1+1+1,1,none⟩ (0:Int)).setCell ⟨w.heap.size+1+1+1,2,none⟩ ()).setCell ⟨w.heap.size+1+1+1,3,none⟩ ()).setCell ⟨w.heap.size+1+1+1,4,none⟩ (.string (zR [s,t] p))).setCell ⟨w.heap.size+1+1+1,5,none⟩ (.int .i64 ((r:Int)+1))=X at *;exact bodyPost_ret (v:=.agg #[(1:Int),(0:Int),(),(),.string (zR [s,t] p),((r:Int)+1:Int)]) (by simp [results,Tryz.results72,go_sem,cf]) rfl (by
       rw [hv.out];exact⟨none,0,0,none,0,0,by simp [noA],zbM _ _,Hx.out⟩)
     |true =>
      have cH:=(J.out.blk aG.out (ag.out _ (dI _))).1.cell;have aE:=i.1.cell;have ba:=za (zds (x:=z) hO.out J.out.j oM cl.out hI aI (by have:=y.size;have:=Q.size;omega) hL aH.out aD);clear ae;go_upto_region 99 with fail
      refine ba.out.mono ?_;rintro e cK ⟨S3,aw,U⟩;have ab:=za ((J.out.trans aw).more hO.out.ok (show 21840+30000*r+1692+1+27840<=21840+30000*(r+1) by omega));have aa:=za (show runT s t p L (12 - (r+1)) (r+1) (zaB L (zo s p L) rs cs z)=vpT s t p by
       rw [← ah.out,aj.out,if_pos hsf,if_neg (show ¬ ((-1:Int)=0) by decide),if_neg (show ¬ ((-1:Int)=1) by decide),show 12 - (r+1)=11 - r by omega])
      have H:=za (aL.out.ao z);have D:=aw.blk i.1 i.2;have cI:=D.1.cell;have ct:=D.1.frozen;have bN:=i.1.lt;clear aE cH;rcases U with ⟨hn,rfl⟩|⟨bk,a4,R2,C2,cr2,cc2,hn,rfl,bc⟩
      ·rw [hn] at H aa;go_wp2_with fail
       go_roundw
       case rel=>exact⟨r+1,none,S3,rfl,gM,oM,za ((ab.out.cell hO.out.ok (oH l.out) (oH l.out) D.2 0 _).cell hO.out.ok (oH l.out) (oH l.out) D.2 1 _),za ⟨D.2,.inl ⟨rfl,_,_,(D.1.ab 0 _).ab 1 _⟩⟩,H,aa⟩
       case measure=>simp [intOf];omega
      ·rw [hn] at H aa;have bd:=za (zeX (base:=w5.heap.size) D.1 D.2 bc (by have:=y.size;have:=Q.size;omega) bN);go_wp2_with fail
       go_roundw
       case rel=>exact⟨r+1,some (bk,a4),S3,rfl,gM,oM,za ((ab.out.cell hO.out.ok (oH l.out) (oH l.out) D.2 0 _).cell hO.out.ok (oH l.out) (oH l.out) D.2 1 _),bd,H,aa⟩
       case measure=>simp [intOf];omega
   |true =>
    have aj:=za (show zaP s p t L a=(zan (zaG s a p) L,-1) by unfold zaP;rw [if_pos hub]);have aC:=zcg bh.out.1 L;have aD:(zan (zaG s a p) L).size<=4000:=by have:=zdP (zaG s a p) L;have:=bh.out.2;omega
    have ay:=za (zcR (s:=zaG s a p) (a:=L) (w:=cJ) bh.out.1 oM);have k9:=(bo.out.ext Y).cell;obtain⟨z,hz⟩:∃ z,Hid (zan (zaG s a p) L=z):=⟨_,za rfl⟩;rw [hz.out] at aC aD aj ay;have aH:=za aC;go_upto_region 20 with (go_at_call 53;refine ay.out.mono (mQ fun bX af=>?_))
    have y:=Y.trans af;have V:=za (ad.out.ext hO.out.ok y);have ba:=za (zds (x:=z) hO.out V.out.j oM (aR.out.ext y) hI aI (by have:=y.size;have:=Q.size;omega) hL aH.out aD);have ae:=(V.out.blk aG.out (ag.out _ (dI _))).1.cell;have ao:=za (aQ.out.ext y);have aE:=ao.out.cell;go_upto_region 99 with fail
    refine ba.out.mono ?_;rintro e cK ⟨S3,aw,U⟩;have ab:=za ((V.out.trans aw).more hO.out.ok (show 21840+30000*r+1692+27840<=21840+30000*(r+1) by omega));have aa:=za (show runT s t p L (12 - (r+1)) (r+1) (zaB L (zo s p L) rs cs z)=vpT s t p by
     rw [← ah.out,aj.out,if_neg (show ¬ ((-1:Int)=0) by decide),if_neg (show ¬ ((-1:Int)=1) by decide),show 12 - (r+1)=11 - r by omega])
    have H:=za (aL.out.ao z);have i:=aw.blk ao.out bK.out;have cI:=i.1.cell;have ct:=i.1.frozen;clear aE ae k9;rcases U with ⟨hn,rfl⟩|⟨bk,a4,R2,C2,cr2,cc2,hn,rfl,bc⟩
    ·rw [hn] at H aa;go_wp2_with fail
     go_roundw
     case rel=>exact⟨r+1,none,S3,rfl,gM,oM,za ((ab.out.cell hO.out.ok (oH l.out) (oH l.out) i.2 0 _).cell hO.out.ok (oH l.out) (oH l.out) i.2 1 _),za ⟨i.2,.inl ⟨rfl,_,_,(i.1.ab 0 _).ab 1 _⟩⟩,H,aa⟩
     case measure=>simp [intOf];omega
    ·rw [hn] at H aa;have bd:=za (zeX (base:=w5.heap.size) i.1 i.2 bc (by have:=y.size;have:=Q.size;omega) (oH ao.out.lt));go_wp2_with fail
     go_roundw
     case rel=>exact⟨r+1,some (bk,a4),S3,rfl,gM,oM,za ((ab.out.cell hO.out.ok (oH l.out) (oH l.out) i.2 0 _).cell hO.out.ok (oH l.out) (oH l.out) i.2 1 _),bd,H,aa⟩
     case measure=>simp [intOf];omega
end
theorem vpT_cert (s t:Sys) (p:Aut):((vpT s t p).code=0->zfJ true (vpT s t p).asm (vpT s t p).tr=true)∧((vpT s t p).code=1->zfJ false (vpT s t p).asm (vpT s t p).tr=true):=by
 rcases zcn s t p with h|⟨L,h⟩
 ·rw [zgC h];exact⟨(fun h=>by cases h),(fun h=>by cases h)⟩
 ·have a:=vpT_ok h;obtain⟨b,c,d⟩:=zbz (s:=s) (p:=p) (t:=t) oM;refine⟨fun h0=>?_,fun h1=>?_⟩
  ·rw [a.quiet oM];unfold zfJ;rw [if_pos rfl,(a.holds h0).1];rw [ByteArray.toList,ByteArray.toList.loop,if_neg dM];rfl
  ·rw [a.none_ oM];unfold zfJ;rw [if_neg dM,zhp b d c];rfl
section
variable {w:World} {lo hi n c lo1 hi1 m d m' d' lo2 hi2 k c2:Nat} {A B B' C:Option Addr} {s t:Sys} {p:Aut}
theorem impl_TaskOf0 (hs:zV w lo hi A n s)(hp:zF w lo1 hi1 B m B' m' p)(ht:zV w lo2 hi2 C k t)(hif:iface s p t = -1) :
  Calls Tryz.prog 39 #[.agg #[s.al,s.st,.slice A n c],.agg #[p.al,.slice B m d,.slice B' m' d'],.agg #[t.al,t.st,.slice C k c2]] w
   fun e w'=>e=.returned (.tuple #[.agg #[(0:Int),(0:Int),(),(0:Int),(),(),(0:Int)],.bool false])∧Ext w w':=by
 have b:=za (fun W (hW:Ext w W)=>zes (c:=c) (d1:=d) (d1':=d') (c2:=c2) (hs.ext hW) (hp.ext hW) (ht.ext hW));rw [hif] at b;clear hs hp ht hif;obtain⟨o,U0⟩:∃ x,Hid ((((w.alloc (.cells #[s.al,s.st,.slice A n c] 38)).alloc (.cells #[p.al,.slice B m d,.slice B' m' d'] 27)).alloc (.cells #[t.al,t.st,.slice C k c2] 38)).alloc (.cells #[(0:Int),(0:Int),(),(0:Int),(),(),(0:Int)] 70)=x):=⟨_,za rfl⟩;have g:Ext w o:=(((((dE _).alloc _).alloc _).alloc _).alloc _).trans (gO U0.out);obtain⟨q,r,u⟩:=zU (((dE _).alloc _).trans (gO U0.out));have l:=eS U0.out;simp only [World.size_alloc] at l
 go_enter Tryz.func39,Tryz.ntmps39
 go_upto_region 1 with fail
 rw [U0.out] at *;have F:=q.cells;have E:=r.cells;have G:=u.cells;have D:=dE o;go_upto_region 99 with fail
 refine (b.out _ g).mono (mQ fun h a=>?_);have i:=l.ext a;have I:=i.cell;have H:=i.frozen;have j:=g.trans a;have hf:Frm (fun k=>k=w.heap.size+1+1+1) h (((((((h.setCell ⟨w.heap.size+1+1+1,0,none⟩ (0:Int)).setCell ⟨w.heap.size+1+1+1,1,none⟩ (0:Int)).setCell ⟨w.heap.size+1+1+1,2,none⟩ ()).setCell ⟨w.heap.size+1+1+1,3,none⟩ (0:Int)).setCell ⟨w.heap.size+1+1+1,4,none⟩ ()).setCell ⟨w.heap.size+1+1+1,5,none⟩ ()).setCell ⟨w.heap.size+1+1+1,6,none⟩ (0:Int)):=
  ((((((eB h _ 0 _).trans (eB _ _ 1 _)).trans (eB _ _ 2 _)).trans (eB _ _ 3 _)).trans (eB _ _ 4 _)).trans (eB _ _ 5 _)).trans (eB _ _ 6 _)
 have y:Blk (((((((h.setCell ⟨w.heap.size+1+1+1,0,none⟩ (0:Int)).setCell ⟨w.heap.size+1+1+1,1,none⟩ (0:Int)).setCell ⟨w.heap.size+1+1+1,2,none⟩ ()).setCell ⟨w.heap.size+1+1+1,3,none⟩ (0:Int)).setCell ⟨w.heap.size+1+1+1,4,none⟩ ()).setCell ⟨w.heap.size+1+1+1,5,none⟩ ()).setCell ⟨w.heap.size+1+1+1,6,none⟩ (0:Int)) (w.heap.size+1+1+1) 70 #[.int .i64 0,.int .i64 0,.slice none 0 0,.int .i64 0,.slice none 0 0,.slice none 0 0,.int .i64 0]:=by
  simpa using ((((((i.ab 0 (.int .i64 0)).ab 1 (.int .i64 0)).ab 2 (.slice none 0 0)).ab 3 (.int .i64 0)).ab 4 (.slice none 0 0)).ab 5 (.slice none 0 0)).ab 6 (.int .i64 0)
 have f:=za (j.frm hf (fun k hk e=>oM));go_wp2_with fail
 generalize (((((((h.setCell ⟨w.heap.size+1+1+1,0,none⟩ (0:Int)).setCell ⟨w.heap.size+1+1+1,1,none⟩ (0:Int)).setCell ⟨w.heap.size+1+1+1,2,none⟩ ()).setCell ⟨w.heap.size+1+1+1,3,none⟩ (0:Int)).setCell ⟨w.heap.size+1+1+1,4,none⟩ ()).setCell ⟨w.heap.size+1+1+1,5,none⟩ ()).setCell ⟨w.heap.size+1+1+1,6,none⟩ (0:Int))=W at *;have z:=y.cell;exact bodyPost_ret (v:=.tuple #[.agg #[(0:Int),(0:Int),(),(0:Int),(),(),(0:Int)],.bool false]) (by simp [results,Tryz.results39,go_sem,z]) rfl ⟨rfl,f.out⟩
theorem zgR (hs:zV w lo hi A n s)(hp:zF w lo1 hi1 B m B' m' p)(ht:zV w lo2 hi2 C k t)(hif:iface s p t = -1) :
  Calls Tryz.prog 72 #[.agg #[s.al,s.st,.slice A n c],.agg #[t.al,t.st,.slice C k c2],.agg #[p.al,.slice B m d,.slice B' m' d'],.nilFunc] w (zji w ⟨3,noA,⟨#[]⟩,0⟩):=by
 have j:=za (fun W (hW:Ext w W)=>impl_TaskOf0 (c:=c) (d:=d) (d':=d') (c2:=c2) (hs.ext hW) (hp.ext hW) (ht.ext hW) hif);clear hs hp ht hif;obtain⟨E,U0⟩:∃ x,Hid ((((w.alloc (.cells #[s.al,s.st,.slice A n c] 38)).alloc (.cells #[t.al,t.st,.slice C k c2] 38)).alloc (.cells #[p.al,.slice B m d,.slice B' m' d'] 27)).alloc (.cells #[(0:Int),(0:Int),(),(),.string ⟨#[]⟩,(0:Int)] 42)=x):=⟨_,za rfl⟩;have f:Ext w E:=(((((dE _).alloc _).alloc _).alloc _).alloc _).trans (gO U0.out);obtain⟨o,q,r⟩:=zU (((dE _).alloc _).trans (gO U0.out));have i:=eS U0.out;simp only [World.size_alloc] at i
 go_enter Tryz.func72,Tryz.ntmps72
 go_upto_region 1 with fail
 rw [U0.out] at *;have y:=o.cell;have z:=q.cell;have D:=r.cell;go_upto_region 99 with fail
 refine (j.out _ f).mono (mQ fun F h=>?_);have g:=h.alloc (.cells #[(0:Int),(0:Int),(),(0:Int),(),(),(0:Int)] 70);have a:=i.ext g;have H:=a.cell;have G:=a.frozen;clear y z D;have b:=vd_fin (f.trans g) a oM (.int .i64 3) (.int .i64 0) (.slice none 0 0) (.slice none 0 0) (.string ⟨#[]⟩) (.int .i64 0);have u:=b.1.cell;have l:=za b.2.2;clear b a;go_wp2_with fail
 generalize ((((((F.alloc (.cells #[(0:Int),(0:Int),(),(0:Int),(),(),(0:Int)] 70)).setCell ⟨w.heap.size+1+1+1,0,none⟩ (3:Int)).setCell ⟨w.heap.size+1+1+1,1,none⟩ (0:Int)).setCell ⟨w.heap.size+1+1+1,2,none⟩ ()).setCell ⟨w.heap.size+1+1+1,3,none⟩ ()).setCell ⟨w.heap.size+1+1+1,4,none⟩ (.string ⟨#[]⟩)).setCell ⟨w.heap.size+1+1+1,5,none⟩ (0:Int)=X at *;exact bodyPost_ret (v:=.agg #[(3:Int),(0:Int),(),(),.string ⟨#[]⟩,(0:Int)]) (by simp [results,Tryz.results72,go_sem,u]) rfl ⟨none,0,0,none,0,0,rfl,zbM _ _,l.out⟩
theorem zdo {v:Vd} (HR:Hid (∀ W,Ext w W->Calls Tryz.prog 72 #[.agg #[s.al,s.st,.slice A n c],.agg #[t.al,t.st,.slice C k c2],.agg #[p.al,.slice B m d,.slice B' m' d'],.nilFunc] W (zji W v))) :
  Calls Tryz.prog 20 #[.agg #[s.al,s.st,.slice A n c],.agg #[t.al,t.st,.slice C k c2],.agg #[p.al,.slice B m d,.slice B' m' d']] w (zji w v):=by
 obtain⟨z,U0⟩:∃ x,Hid ((((w.alloc (.cells #[s.al,s.st,.slice A n c] 38)).alloc (.cells #[t.al,t.st,.slice C k c2] 38)).alloc (.cells #[p.al,.slice B m d,.slice B' m' d'] 27)).alloc (.cells #[(0:Int),(0:Int),(),(),.string ⟨#[]⟩,(0:Int)] 42)=x):=⟨_,za rfl⟩;have f:Ext w z:=(((((dE _).alloc _).alloc _).alloc _).alloc _).trans (gO U0.out);obtain⟨F,G,H⟩:=zU (((dE _).alloc _).trans (gO U0.out));have u:=eS U0.out;simp only [World.size_alloc] at u
 go_enter Tryz.func20,Tryz.ntmps20
 go_wp2_with fail
 rw [U0.out] at *;refine (HR.out z f).mono ?_;rintro e L ⟨h,q,l,i,r,o,rfl,y,g⟩;have a:=u.ext g;have J:=a.cell;have I:=a.frozen;have b:=vd_fin (f.trans g) a oM (.int .i64 v.code) (.int .i64 v.asm.al) (.slice h q l) (.slice i r o) (.string v.tr) (.int .i64 v.ro);have j:=za ((y.aq a b.2.1 dM).less f.size);have E:=b.1.cell;have D:=za b.2.2;clear b a y;go_wp2_with fail
 exact bodyPost_ret (v:=.agg #[v.code,v.asm.al,.slice h q l,.slice i r o,v.tr,v.ro]) (by simp [results,Tryz.results20,go_sem,E]) rfl ⟨h,q,l,i,r,o,rfl,j.out,D.out⟩
theorem zhD (hs:zV w lo hi A n s)(hp:zF w lo1 hi1 B m B' m' p)(ht:zV w lo2 hi2 C k t)(hT:Tab w) :
  Calls Tryz.prog 20 #[.agg #[s.al,s.st,.slice A n c],.agg #[t.al,t.st,.slice C k c2],.agg #[p.al,.slice B m d,.slice B' m' d']] w (zji w (vpT s t p)):=by
 rcases zcn s t p with h|⟨L,h⟩
 ·rw [zgC h];exact zdo (za (fun W hW=>zgR (hs.ext hW) (hp.ext hW) (ht.ext hW) h))
 ·have a:=(zbz (show 0<=iface s p t by omega)).1;exact zdo (za (fun W hW=>zhE (hs.ext hW) (hp.ext hW) (ht.ext hW) h (by have:=hs.1;have:=valid_len a;omega) (hT.ext hW)))
end
theorem zih (h:three ss p=false):vcT ss p=⟨3,noA,noA,⟨#[]⟩,0⟩:=by
 unfold vcT;split
 ·rw [if_neg (by unfold zay;rw [h,if_neg dM];omega)]
 ·rfl
theorem vcT_valid (h:(vcT ss p).code≠3):three ss p=true:=by
 rw [← Bool.not_eq_false];intro hn;rw [zih hn] at h;exact h rfl
def RetVcH (w:World) (v:Vc) (e:Ending) (w':World):Prop:=
 ∃ (A:Option Addr) (n c:Nat) (A':Option Addr) (n' c':Nat) (C:Option Addr) (k d:Nat) (C':Option Addr) (k' d' mid:Nat),
  e=.returned (.agg #[v.code,v.fst.al,.slice A n c,.slice A' n' c',v.snd.al,.slice C k d,.slice C' k' d',v.tr,v.ro])∧AutH w' w.heap.size mid A n c A' n' c' v.fst∧zN w' mid C k d C' k' d' v.snd∧w.heap.size<=mid∧Ext w w'
theorem AutH.wide {hi hi':Nat}  (h:AutH w base hi A n c A' n' c' a)(h1:base'<=base)(h2:hi<=hi'):AutH w base' hi' A n c A' n' c' a:=by
 obtain⟨⟨d,f,g,m⟩,o,j,k,p,l⟩:=h;exact⟨⟨d,zq f h1,g.less h1,fun i row b hr hb=>eV (m i row b hr hb) h2⟩,fun b hb=>eV (o b hb) h2,j,zq k h1,fun b hb=>eV (p b hb) h2,l⟩
theorem zhh (W:World) (base hi:Nat):AutH W base hi none 0 0 none 0 0 noA:=
 ⟨⟨[],World.ownsRow_nil _ _ _ _,zC.nil _ _,fun i row b hr _=>by simp at hr⟩,(fun b hb=>by cases hb),rfl,World.ownsRow_nil _ _ _ _,(fun b hb=>by cases hb),rfl⟩
theorem vc_fin (hx:Ext w W)(hb:Blk W Z 33 vs)(h9:vs.size=9)(hZ:w.heap.size<=Z) (u0 u1 u2 u3 u4 u5 u6 u7 u8:Value) :
  Blk (((((((((W.setCell Z u0).setCell ⟨Z,1,none⟩ u1).setCell ⟨Z,2,none⟩ u2).setCell ⟨Z,3,none⟩ u3).setCell ⟨Z,4,none⟩ u4).setCell ⟨Z,5,none⟩ u5).setCell ⟨Z,6,none⟩ u6).setCell ⟨Z,7,none⟩ u7).setCell ⟨Z,8,none⟩ u8) Z 33 #[u0,u1,u2,u3,u4,u5,u6,u7,u8] ∧
  Frm (fun k=>k=Z) W (((((((((W.setCell Z u0).setCell ⟨Z,1,none⟩ u1).setCell ⟨Z,2,none⟩ u2).setCell ⟨Z,3,none⟩ u3).setCell ⟨Z,4,none⟩ u4).setCell ⟨Z,5,none⟩ u5).setCell ⟨Z,6,none⟩ u6).setCell ⟨Z,7,none⟩ u7).setCell ⟨Z,8,none⟩ u8) ∧
  Ext w (((((((((W.setCell Z u0).setCell ⟨Z,1,none⟩ u1).setCell ⟨Z,2,none⟩ u2).setCell ⟨Z,3,none⟩ u3).setCell ⟨Z,4,none⟩ u4).setCell ⟨Z,5,none⟩ u5).setCell ⟨Z,6,none⟩ u6).setCell ⟨Z,7,none⟩ u7).setCell ⟨Z,8,none⟩ u8):=by
 have hf:=vc_frm W Z u0 u1 u2 u3 u4 u5 u6 u7 u8;exact⟨zii hb h9 u0 u1 u2 u3 u4 u5 u6 u7 u8,hf,hx.frm hf (fun q hq e=>by have e':q=Z:=e;omega)⟩
section
variable {w:World} {lo hi n c lo1 hi1 m d m' d':Nat} {A B B':Option Addr} {ss:List Sys} {p:Aut}
theorem zgq (h:zdG w lo hi A n ss)(hp:zF w lo1 hi1 B m B' m' p)(h3:three ss p=false) :
  Calls Tryz.prog 16 #[.slice A n c,.agg #[p.al,.slice B m d,.slice B' m' d']] w (RetVcH w ⟨3,noA,noA,⟨#[]⟩,0⟩):=by
 have j:=za (show zay ss p = -1 by unfold zay;rw [h3];rfl);have f:=za (fun W (hW:Ext w W)=>zdL (c:=c) (d:=d) (d':=d') (h.ext hW) (hp.ext hW));rw [j.out] at f;clear h hp h3;generalize zcb ss p=x at *
 go_enter Tryz.func16,Tryz.ntmps16
 go_upto_region 1 with fail
 generalize U0:(w.alloc _).alloc _=y at *;obtain⟨g,l,o⟩:=iS U0;clear U0;have q:=l.cell;go_upto_region 99 with fail
 refine (f.out _ g).mono (mQ fun u i=>?_);have a:=o.ext i;clear q;have t:=a.cell;have s:=a.frozen;go_wp2_with fail
 have b:=vc_fin (g.trans i) a rfl oM (.int .i64 3) (.int .i64 0) (.slice none 0 0) (.slice none 0 0) (.int .i64 0) (.slice none 0 0) (.slice none 0 0) (.string ⟨#[]⟩) (.int .i64 0);have r:=b.1.cell;have k:=za b.2.2;clear b t s a;generalize ((((((((u.setCell ⟨w.heap.size+1,0,none⟩ (3:Int)).setCell ⟨w.heap.size+1,1,none⟩ (0:Int)).setCell ⟨w.heap.size+1,2,none⟩ ()).setCell ⟨w.heap.size+1,3,none⟩ ()).setCell ⟨w.heap.size+1,4,none⟩ (0:Int)).setCell ⟨w.heap.size+1,5,none⟩ ()).setCell ⟨w.heap.size+1,6,none⟩ ()).setCell ⟨w.heap.size+1,7,none⟩ (.string ⟨#[]⟩)).setCell ⟨w.heap.size+1,8,none⟩ (0:Int)=X at *;exact bodyPost_ret (v:=.agg #[(3:Int),(0:Int),(),(),(0:Int),(),(),.string ⟨#[]⟩,(0:Int)]) (by simp [results,Tryz.results16,go_sem,r]) rfl (by
  skip;exact⟨none,0,0,none,0,0,none,0,0,none,0,0,w.heap.size,rfl,zhh _ _ _,zbM _ _,dI _,k.out⟩)
theorem yY15a2 {P:Prop}(h:P:=by
 have hxO:=hx25.frm hf (fun k hk e=>by have e':k=G:=e;omega);have Hf:=za (And.intro hSG (And.intro hbO (And.intro hjO hxO)));have hsO:=za hf.size;have hsB:=bG.lt;clear hf hbO hjO hxO hok hJ cG fG bG;go_wp2_with fail
 go_meet;exact⟨F,S0,G,wd.heap.size,rfl,rfl,⟨oM,hsd,by have:=hsO.out;have:=hx25.size;omega⟩,hO.out,Hf.out⟩
 ):P:=h
theorem yY15a3 {P:Prop}(h:P:=by
 simpa using (((((bG.ab 0 (.int .i64 v.code)).ab 1 (.int .i64 v.asm.al)).ab 2 (.slice Z1 z1 y1)).ab 3 (.slice Z2 z2 y2)).ab 4 (.string v.tr)).ab 5 (.int .i64 v.ro)
 ):P:=h
theorem zgr (h:zdG w lo hi (some ⟨b,o,none⟩) 3 [x,y,z])(hp:zF w lo1 hi1 B m B' m' p)(h3:three [x,y,z] p=true)(hc:zay [x,y,z] p=(L:Int))(hL:L<64)(hT:Tab w)(hhi:hi<=w.heap.size)(hhi1:hi1<=w.heap.size) :
  Calls Tryz.prog 16 #[.slice (some ⟨b,o,none⟩) 3 c,.agg #[p.al,.slice B m d,.slice B' m' d']] w (RetVcH w (chT x y z p L 12 0 ((zX L (zo x p L) [⟨#[]⟩] 11 [⟨#[]⟩]).map fun r=>(r,[⟨#[]⟩])))):=by
 obtain⟨-,cD,vp⟩:=zgd.1 h3;obtain⟨-,hv⟩:=zao cD;have vx:=hv x sM;have vy:=hv y sM;have vz:=hv z sM;obtain⟨A1,n1,c1,f0,f1,f2,bO⟩:=h.ax (k:=0) (s:=x) rfl;obtain⟨A2,n2,c2,g0,g1,g2,cN⟩:=h.ax (k:=1) (s:=y) rfl;obtain⟨A3,n3,c3,e0,e1,e2,ak⟩:=h.ax (k:=2) (s:=z) rfl;have b0:=za (show ∀ W,Ext w W->W.cell? ⟨b,o,none⟩=some (.int .i64 x.al)∧W.cell? ⟨b,o+1,none⟩=some (.int .i64 x.st)∧W.cell? ⟨b,o+2,none⟩=some (.slice A1 n1 c1)∧W.cell? ⟨b,o+3,none⟩=some (.int .i64 y.al)∧W.cell? ⟨b,o+4,none⟩=some (.int .i64 y.st)∧W.cell? ⟨b,o+5,none⟩=some (.slice A2 n2 c2)∧W.cell? ⟨b,o+6,none⟩=some (.int .i64 z.al)∧W.cell? ⟨b,o+7,none⟩=some (.int .i64 z.st)∧W.cell? ⟨b,o+8,none⟩=some (.slice A3 n3 c3) from fun W hW =>
  ⟨hW.aa (by simpa using f0),hW.aa (by simpa using f1),hW.aa (by simpa using f2),hW.aa (by simpa using g0),hW.aa (by simpa [gF] using g1),hW.aa (by simpa [gF] using g2),hW.aa (by simpa using e0),hW.aa (by simpa [gF] using e1),hW.aa (by simpa [gF] using e2)⟩)
 have b2:=za (fun W0 W (hW0:Ext w W0) (hW:Ext W0 W)=>zfg (w0:=W0) (c:=c1) (d:=d) (d':=d') hW ((bO.more (Nat.min_le_left lo lo1) (Nat.le_max_left hi hi1)).ext (hW0.trans hW)) ((hp.more (Nat.min_le_right lo lo1) (Nat.le_max_right hi hi1)).ext (hW0.trans hW)) vx vp hL (eI (Nat.max_le.2 ⟨hhi,hhi1⟩) hW0.size) (hT.ext hW0));have b1:=za (fun W (hW:Ext w W)=>zdL (c:=c) (d:=d) (d':=d') (h.ext hW) (hp.ext hW));rw [hc] at b1;have cX:=za (fun W (hW:Ext w W)=>zbL (c:=c) (d2:=d) (d2':=d') (h.ext hW) (hp.ext hW) (hT.ext hW));have HX:=za (fun W (hW:Ext w W)=>bO.ext hW);have HP:=za (fun W (hW:Ext w W)=>hp.ext hW);have cZ:=za (fun W (hW:Ext w W) (a:Aut) (X:Option Addr) (k1 d1:Nat) (X':Option Addr) (k1' d1' l1 l2:Nat) (ha:zF W l1 l2 X k1 X' k1' a)=>zhD (c:=c2) (c2:=c3) (d:=d1) (d':=d1') (cN.ext hW) ha (ak.ext hW) (hT.ext hW));have Hv:=za (And.intro vx (And.intro vy (And.intro vz vp)));have a8:L<=63:=oM;have b3:=za (fun W (hW:Ext w W)=>hT.ext hW);obtain⟨S,cp⟩:∃ S,Hid (S=chT x y z p L 12 0 ((zX L (zo x p L) [⟨#[]⟩] 11 [⟨#[]⟩]).map fun r=>(r,[⟨#[]⟩]))):=⟨_,za rfl⟩;rw [← cp.out];clear h hp h3 hc cD vp hv vx vy vz f0 f1 f2 g0 g1 g2 e0 e1 e2 bO cN ak hhi hhi1 hT;generalize zcb [x,y,z] p=q2 at *;have dT:¬ (L:Int)<0:=oM
 go_enter Tryz.func16,Tryz.ntmps16
 go_upto_region 1 with fail
 generalize U0:(w.alloc _).alloc _=w1 at *;obtain⟨cK,b4,b8⟩:=iS U0;clear U0;have k4:=b4.cell;go_upto_region 4 with (go_at_call 23;refine (b1.out _ cK).mono (mQ fun w2 ah=>?_))
 have Z:=cK.trans ah;have cV:=fun W (hW:Ext w2 W)=>b0.out W (Z.trans hW);have ds:∀ W,Ext w2 W->∀ q,W.cell? ⟨w.heap.size,q,none⟩=#[Value.int .i64 p.al,.slice B m d,.slice B' m' d'][q]?:=fun W hW=>(b4.ext (ah.trans hW)).cell;have bf:=dE w2;clear k4;have cF:=zjb (122)
 go_cut [7,8] (fun v7 v8 wx=>∃ (F:Sfx) (S0:Nat->Prop) (G lo:Nat),v7=.pointer (some G)∧v8=.bool true∧(w2.heap.size<=G∧w2.heap.size<=lo∧lo<=wx.heap.size)∧zfE lo L (zo x p L) (zhs F) 122 (.pointer (some ⟨F.G,0,none⟩))∧¬ S0 G∧Blk wx G 83 #[(L:Int),.func (.func 122) #[.pointer (some ⟨F.G,0,none⟩)] #[]]∧zhs F 0 wx S0∧Ext w2 wx)
 case first =>
  refine uR (fun X=>Ext w2 X) [7,12] (zw.app [0,1,2,3,4,5,6] (zw.two 7 (zw.of [8,9,10,11,12,13]) 11 (zw.of [7,8,9,10,12,13]))) ?_;refine uQ ?_;have Q:Ext w2 w2.drew:=bf.drew;have hsd:=Q.size;generalize w2.drew=wd at *;refine zm (fun K hK=>?_) (fun K hK=>?_)
  ·go_simp;refine (b2.out wd wd (Z.trans Q) (dE wd)).mono ?_;rintro e w4 ⟨F,S0,rfl,hok,bx,bu,bt,aE,dg,hJ,ab⟩;have bg:=Q.trans ab;refine hK.out _ _ bg ?_;refine pT ?_;refine uQ ?_;refine ze fun K hK=>?_;go_simp;have O:=(dE w4).alloc (.cells #[(0:Int),.nilFunc] 83);have hx25:=bg.trans O;have cE:=ab.size;have hSG:¬ S0 w4.heap.size:=zbx.fresh (zhs.ok hok) hJ (dI _);have di:=(zhs.ok hok).keep hJ O (fun _ _ h=>h.elim);refine hK.out _ _ hx25 ?_;generalize U0:w4.alloc _=we at *;have bG:=eS U0;clear U0;generalize w4.heap.size=G at *;refine pT ?_;have cG:=bG.cell;have fG:=bG.frozen;refine zb fun K hK=>?_;go_simp;refine hK.out _ _ ?_;refine uQ ?_;refine zg ?_;have hf:=(eB we G 0 (.int .i64 (L:Int))).trans (eB _ G 1 (.func (.func 122) #[.pointer (some ⟨F.G,0,none⟩)] #[]));have hO:=za (show zfE wd.heap.size L (zo x p L) (zhs F) 122 (.pointer (some ⟨F.G,0,none⟩)) by
    have:=sf_orc hok;rwa [bx,bu,bt,aE] at this)
   have hbO:Blk ((we.setCell G (.int .i64 (L:Int))).setCell ⟨G,1,none⟩ (.func (.func 122) #[.pointer (some ⟨F.G,0,none⟩)] #[])) G 83 #[.int .i64 (L:Int),.func (.func 122) #[.pointer (some ⟨F.G,0,none⟩)] #[]]:=by
    simpa using (bG.ab 0 (.int .i64 (L:Int))).ab 1 (.func (.func 122) #[.pointer (some ⟨F.G,0,none⟩)] #[])
   have hjO:=hO.out.ok.keep di hf (fun k hk e=>by have e':k=G:=e;subst e';exact⟨oM,hSG⟩);exact yY15a2
  ·go_simp;have O:=(dE wd).alloc (.cells #[(0:Int),.nilFunc] 83);have bG:=eX wd 83 #[(0:Int),.nilFunc];have aQ:=Q.trans O;refine hK.out _ _ aQ ?_;obtain⟨we,cJ⟩:∃ we,wd.alloc (.cells #[(0:Int),.nilFunc] 83)=we:=⟨_,rfl⟩;rw [cJ] at O bG aQ ⊢;obtain⟨G,hG⟩:∃ G,Hid (wd.heap.size=G):=⟨_,za rfl⟩;rw [hG.out] at bG ⊢;clear cJ;refine pT ?_;refine zb fun K hK=>?_;go_simp;refine (b2.out wd we (Z.trans Q) O).mono ?_;rintro e w4 ⟨F,S0,rfl,hok,bx,bu,bt,aE,dg,hJ,ab⟩;have hx25:=aQ.trans ab;have d3:=O.size;have cE:=ab.size;have dh:=hG.out;have dP:=bG.lt;have hSG:¬ S0 G:=fun hs=>by have:=zhs.low0 hok hJ hs;omega
   replace bG:=bG.ext ab;refine hK.out _ _ ?_;refine pT ?_;refine uQ ?_;have cG:=bG.cell;have fG:=bG.frozen;refine zb fun K hK=>?_;go_simp;refine hK.out _ _ ?_;refine uQ ?_;refine zg ?_;have hf:=(eB w4 G 0 (.int .i64 (L:Int))).trans (eB _ G 1 (.func (.func 122) #[.pointer (some ⟨F.G,0,none⟩)] #[]));have hO:=za (show zfE wd.heap.size L (zo x p L) (zhs F) 122 (.pointer (some ⟨F.G,0,none⟩)) by
    have:=sf_orc hok;rwa [bx,bu,bt,aE] at this)
   have hbO:Blk ((w4.setCell G (.int .i64 (L:Int))).setCell ⟨G,1,none⟩ (.func (.func 122) #[.pointer (some ⟨F.G,0,none⟩)] #[])) G 83 #[.int .i64 (L:Int),.func (.func 122) #[.pointer (some ⟨F.G,0,none⟩)] #[]]:=by
    simpa using (bG.ab 0 (.int .i64 (L:Int))).ab 1 (.func (.func 122) #[.pointer (some ⟨F.G,0,none⟩)] #[])
   have hjO:=hO.out.ok.keep hJ hf (fun k hk e=>by have e':k=G:=e;subst e';exact⟨oM,hSG⟩);exact yY15a2
 case rest =>
 obtain⟨F,S0,eb,lo,rfl,rfl,⟨dJ,dS,cx⟩,hO,ar,bn,cu,aj⟩:=hcut;obtain⟨w5,dm⟩:∃ w5,w5=wc:=⟨_,rfl⟩;subst dm;have hO:=za hO;have aq:=bn.cell;have cz:=za (zhR hO.out cu oM cx hL);go_upto_region 99 with fail
 refine cz.out.mono ?_;rintro e w6 ⟨S6,a0,T⟩;rcases T with ⟨cy,rfl⟩|⟨bR,bp,R0,C0,ce,cd,cB,rfl,cl⟩
 ·obtain⟨r,hr⟩:=zhN L (zo x p L);rw [hr] at cy;cases cy
 obtain⟨w7,U0⟩:∃ x,Hid (w6.alloc (.cells #[.slice R0 bR.length ce,.slice C0 bp.length cd] 90)=x):=⟨_,za rfl⟩;have i:=eS U0.out;have bh:Ext w6 w7:=((dE _).alloc _).trans (gO U0.out);obtain⟨bs,l⟩:∃ g,Hid (g=w6.heap.size):=⟨_,za rfl⟩;have ck:=za (fun (q:Nat) (hq:w6.heap.size<=q)=>zbx.fresh hO.out.ok a0.j hq);go_upto_region 6 with fail
 rw [← l.out] at i ⊢;rw [U0.out] at *;have C:=za (show ∀ q:Nat,S0 q->w2.heap.size<=q from fun q h=>by have:=hO.out.ok.low cu q h;omega);have cv:=za ((a0.ext hO.out.ok bh).more hO.out.ok (show 0+21840<=21840+30000*0 by omega));obtain⟨o0,a2⟩:∃ o0:Option (List ByteArray × List ByteArray),Hid ((zX L (zo x p L) [⟨#[]⟩] 11 [⟨#[]⟩]).map (fun r=>(r,[(⟨#[]⟩:ByteArray)]))=o0):=⟨_,za rfl⟩;have aK:o0=some (bR,bp):=a2.out.symm.trans cB;have bb:=za (show LnOk L (zo x p L) 0 o0 by rw [← a2.out];exact LnOk.start L (zo x p L));have bc:=za (show chT x y z p L (12 - 0) 0 o0=S by rw [cp.out,← a2.out]);have bd:o0.isSome=true:=by rw [aK];rfl
 have be:=za (show TabV3 w7 S6 w5.heap.size bs o0 from ⟨ck.out bs (oH l.out),.inr ⟨bR,bp,R0,C0,ce,cd,aK,i,cl.ext bh⟩⟩);have dX:=Z.size;have dY:=ah.size;have dZ:=aj.size;have d0:=a0.size;have dN:=b4.lt;have dO:=b8.lt;have B4:=za ((b4.ext ah).ext aj);have B8:=za ((b8.ext ah).ext aj);have aW:=za bn;have dh:w.heap.size<=w5.heap.size:=(Z.trans aj).size;have aT:=za (Z.trans aj);clear ds cV bf aq b4 b8 bn cl i a0 cz cF cB;go_wp2_with fail
 go_loopw [10,11,12,13,14,15,16,17] (fun v10 v11 _ _ _ _ _ _ wr=>∃ (r:Nat) (q:Option (List ByteArray × List ByteArray)) (S1:Nat->Prop),v10=.bool q.isSome∧v11=.int .i64 ((r:Int)+1)∧r<=12∧Hid (Kp (zhs F) (21840+30000*r) S0 w5 wr S1)∧Hid (TabV3 wr S1 w5.heap.size bs q)∧Hid (LnOk L (zo x p L) r q)∧Hid (chT x y z p L (12 - r) r q=S)) (fun _ v11 _ _ _ _ _ _ _=>14 - (intOf v11).toNat)
 case atStart=>exact⟨0,o0,S6,by rw [bd],rfl,eC _,cv,be,bb,bc⟩
 case round =>
  clear cv be bb bc bd aK a2;obtain⟨r,q,S1,rfl,rfl,hr,ax,cH,a1,bE⟩:=hrel;have af:=(ax.out.blk B8.out (fun h=>by have:=C.out _ h;omega)).1;cases q with
  |none =>
   have hv:=za (show S=⟨2,noA,noA,⟨#[]⟩,r⟩ by
    rw [← bE.out];cases h12:12 - r with
    |zero=>rfl
    |succ f=>rfl)
   have dq:Ext w wr:=aT.out.frm ax.out.frm (fun q hq hs=>by have:=C.out q hs;omega);have k8:=af.cell;have f8:=af.frozen;go_wp2_with fail
   have D:=vc_fin dq af rfl oM (.int .i64 2) (.int .i64 0) (.slice none 0 0) (.slice none 0 0) (.int .i64 0) (.slice none 0 0) (.slice none 0 0) (.string ⟨#[]⟩) (.int .i64 r);have cf:=D.1.cell;have Hx:=za D.2.2;clear D k8 f8 af;generalize ((((((((wr.setCell ⟨w.heap.size+1,0,none⟩ (2:Int)).setCell ⟨w.heap.size+1,1,none⟩ (0:Int)).setCell ⟨w.heap.size+1,2,none⟩ ()).setCell ⟨w.heap.size+1,3,none⟩ ()).setCell ⟨w.heap.size+1,4,none⟩ (0:Int)).setCell ⟨w.heap.size+1,5,none⟩ ()).setCell ⟨w.heap.size+1,6,none⟩ ()).setCell ⟨w.heap.size+1,7,none⟩ (.string ⟨#[]⟩)).setCell ⟨w.heap.size+1,8,none⟩ r=X at *;exact bodyPost_ret (v:=.agg #[(2:Int),(0:Int),(),(),(0:Int),(),(),.string ⟨#[]⟩,r]) (by simp [results,Tryz.results16,go_sem,cf]) rfl (by
    rw [hv.out];exact⟨none,0,0,none,0,0,none,0,0,none,0,0,w.heap.size,rfl,zhh _ _ _,zbM _ _,dI _,Hx.out⟩)
  |some tab =>
   obtain⟨rs,cs⟩:=tab;obtain⟨cq,dj⟩:=cH.out;rcases dj with ⟨h0,_⟩|⟨rs',cs',R,C1,cr,cc,h0,bA,bJ⟩
   ·cases h0
   obtain⟨rfl,rfl⟩:=Prod.mk.inj (Option.some.inj h0);obtain⟨hI,aY⟩:=a1.out.tab rs cs rfl;have dQ:w5.heap.size<=wr.heap.size:=ax.out.size;have bz:=za (zeF hO.out ax.out.j oM bJ hI aY oM hL);have bK:=za (zbs hI aY hL);obtain⟨a,cm⟩:∃ a,Hid (zcN L (zo x p L) rs cs=a):=⟨_,za rfl⟩;rw [cm.out] at bz bK;have aF:=ax.out.blk aW.out ar;have aq:=aF.1.cell;have aU:=bA.cell;have b5:=za bJ;have bl:=za bA;clear cH bJ bA h0 af;go_upto_region 11 with (go_at_call 51;refine bz.out.mono ?_;rintro e w8 ⟨S2,AA,ay,an,ac,aC,av,rfl,ci,aw⟩)
   have bB:=ax.out.trans aw;have ct:=za (aw.out bl.out.lt cq);have dL:=za (fun (q:Nat) (hq:w8.heap.size<=q)=>zbx.fresh hO.out.ok bB.j hq);have dR:=aw.size;generalize U0:w8.alloc _=w9 at *;obtain⟨I,co⟩:=Ext.x1_ U0;have aJ:=za (bB.ext hO.out.ok I);have aD:=za (ci.ext I);have a6:=za ((aw.blk bl.out cq).1.ext I);have a7:=za ((b5.out.kp aw).ext I);clear U0;have ad:=za (show Ext w w9 from aJ.out.av aT.out (fun q hs=>by have:=C.out q hs;omega));have c0:=za (fun W (hW:Ext w9 W)=>zdb (c:=c1) (d1:=ac) (d1':=av) (d2:=d) (d2':=d') (HX.out _ (ad.out.trans hW)) (aD.out.own_.reads.ext hW) (HP.out _ (ad.out.trans hW)) (b3.out _ (ad.out.trans hW)));have az:=za (fun W (hW:Ext w9 W)=>cZ.out W (ad.out.trans hW) a AA an ac ay aC av _ _ (aD.out.own_.reads.ext hW));have bk:=fun W (hW:Ext w9 W)=>b0.out W (ad.out.trans hW);have c9:=(aJ.out.blk B4.out (fun h=>by have:=C.out _ h;omega)).1;have k4:=c9.cells;have bP:=co.cells;have aP:=dE w9;clear bz ci aw bB b5 bl aq aU aF;refine uR (fun X=>Ext w9 X) [5] (zw.of [0,1,2,3,4,5,6,7,8,9,10]) ?_;refine uQ ?_;refine zb fun K hK=>?_;go_simp;refine (c0.out _ aP.drew).mono (mQ fun E M=>?_);replace M:Ext w9 E:=aP.drew.trans M;refine hK.out _ _ ?_;refine pT ?_;refine uQ ?_;refine zg ?_;have dV:r<12:=by have:=a1.out.more rs cs rfl;have:=hI.r12;omega
   have Y:=za (show (if (zaK x y z p L a).2.1=0 then (⟨0,a,(zaK x y z p L a).2.2,⟨#[]⟩,r+1⟩:Vc) else if (zaK x y z p L a).2.1=2 then ⟨2,noA,noA,⟨#[]⟩,r+1⟩ else if (zaK x y z p L a).2.1=1 then ⟨1,noA,noA,zR [x,y,z] p,r+1⟩ else chT x y z p L (11 - r) (r+1) (zaB L (zo x p L) rs cs (zaK x y z p L a).1))=S by
    rw [← bE.out,show 12 - r=(11 - r)+1 by omega,chT,cm.out])
   clear bE;have a4:=za (zdi Hv.out.1 bK.out Hv.out.2.2.2);have a3:=za (zhp Hv.out.2.1 Hv.out.2.2.1 bK.out);have bL:=za (vpT_size y z a).2;have a9:=(aJ.out.blk B8.out (fun h=>by have:=C.out _ h;omega)).1;cases hub:zbD x a p with
   |false =>
    obtain⟨v,cI⟩:∃ v,Hid (vpT y z a=v):=⟨_,za rfl⟩;rw [cI.out] at a3 bL az;have ao:=za (show zaK x y z p L a=if v.code=0 then (⟨#[]⟩,0,v.asm) else if v.code=2 then (⟨#[]⟩,2,noA) else (zan v.tr L,if zo x p L (zan v.tr L)=true then -1 else 1,noA) by unfold zaK;rw [if_neg (by simp [hub]),cI.out]);have cW:=fun W (hW:Ext E W)=>bk W (M.trans hW);have cg:=fun W (hW:Ext E W)=>bP W (M.trans hW);have aO:=dE E;have aA:=za (fun W (hW:Ext E W)=>az.out W (M.trans hW));clear bk k4 bP aP;go_upto_region 13 with fail
    go_cut [15] (fun v15 wx=>∃ (G:Nat) (Z1:Option Addr) (z1 y1:Nat) (Z2:Option Addr) (z2 y2:Nat),v15=.pointer (some G)∧E.heap.size<=G∧Blk wx G 42 #[v.code,v.asm.al,.slice Z1 z1 y1,.slice Z2 z2 y2,v.tr,v.ro]∧zN wx E.heap.size Z1 z1 y1 Z2 z2 y2 v.asm∧Ext E wx)
    case first =>
     clear az ao Y a4 a3 bL a9;refine uR (fun X=>Ext E X) [7,9] (zw.app [0,1,2,3,4,5,6] (zw.two 7 (zw.of [8,9]) 8 (zw.of [7,9]))) ?_;refine uQ ?_;have Q:Ext E E.drew:=aO.drew;have hsd:=Q.size;generalize E.drew=wd at *;refine zm (fun K hK=>?_) (fun K hK=>?_)
     ·go_simp;refine (aA.out _ Q).mono ?_;rintro e aV ⟨Z1,z1,y1,Z2,z2,y2,rfl,ho,aa⟩;refine hK.out _ _ (Q.trans aa) ?_;refine pT ?_;refine ze fun K hK=>?_;go_simp;have O:=(dE aV).alloc (.cells #[(0:Int),(0:Int),(),(),.string ⟨#[]⟩,(0:Int)] 42);have ai:=(Q.trans aa).trans O;have hG:E.heap.size<=aV.heap.size:=(Q.trans aa).size;have aL:=(ho.ext O).less hsd;refine hK.out _ _ ai ?_;generalize U0:aV.alloc _=J at *;have bG:=eS U0;clear U0;generalize aV.heap.size=G at *;refine pT ?_;have cG:=bG.cell;have fG:=bG.frozen;refine zb fun K hK=>?_;go_simp;refine hK.out _ _ ?_;refine zg ?_;have hf:=zdC J G (.int .i64 v.code) (.int .i64 v.asm.al) (.slice Z1 z1 y1) (.slice Z2 z2 y2) (.string v.tr) (.int .i64 v.ro);have bV:Blk ((((((J.setCell G v.code).setCell ⟨G,1,none⟩ v.asm.al).setCell ⟨G,2,none⟩ (.slice Z1 z1 y1)).setCell ⟨G,3,none⟩ (.slice Z2 z2 y2)).setCell ⟨G,4,none⟩ v.tr).setCell ⟨G,5,none⟩ v.ro) G 42 #[.int .i64 v.code,.int .i64 v.asm.al,.slice Z1 z1 y1,.slice Z2 z2 y2,.string v.tr,.int .i64 v.ro]:=by
       exact yY15a3
      have Hf:=za (And.intro hG (And.intro bV (And.intro (aL.aq bG hf dM) (ai.frm hf (fun k hk e=>oM)))));clear hf bV aL ho ai cG fG bG;go_wp2_with fail
      go_meet;exact⟨G,Z1,z1,y1,Z2,z2,y2,rfl,Hf.out⟩
     ·go_simp;have O:=(dE wd).alloc (.cells #[(0:Int),(0:Int),(),(),.string ⟨#[]⟩,(0:Int)] 42);have bG:=eX wd 42 #[(0:Int),(0:Int),(),(),.string ⟨#[]⟩,(0:Int)];have ai:=Q.trans O;refine hK.out _ _ ai ?_;generalize wd.alloc _=aV at *;generalize wd.heap.size=G at *;refine pT ?_;refine zb fun K hK=>?_;go_simp;refine (aA.out _ ai).mono ?_;rintro e J ⟨Z1,z1,y1,Z2,z2,y2,rfl,ho,aa⟩;have cM:=ai.trans aa;have aL:=ho.less ai.size;have hG:=hsd;replace bG:=bG.ext aa;refine hK.out _ _ ?_;refine pT ?_;have cG:=bG.cell;have fG:=bG.frozen;refine zb fun K hK=>?_;go_simp;refine hK.out _ _ ?_;refine zg ?_;have hf:=zdC J G (.int .i64 v.code) (.int .i64 v.asm.al) (.slice Z1 z1 y1) (.slice Z2 z2 y2) (.string v.tr) (.int .i64 v.ro);have bV:Blk ((((((J.setCell G v.code).setCell ⟨G,1,none⟩ v.asm.al).setCell ⟨G,2,none⟩ (.slice Z1 z1 y1)).setCell ⟨G,3,none⟩ (.slice Z2 z2 y2)).setCell ⟨G,4,none⟩ v.tr).setCell ⟨G,5,none⟩ v.ro) G 42 #[.int .i64 v.code,.int .i64 v.asm.al,.slice Z1 z1 y1,.slice Z2 z2 y2,.string v.tr,.int .i64 v.ro]:=by
       exact yY15a3
      have Hf:=za (And.intro hG (And.intro bV (And.intro (aL.aq bG hf dM) (cM.frm hf (fun k hk e=>oM)))));clear hf bV aL ho cM cG fG bG;go_wp2_with fail
      go_meet;exact⟨G,Z1,z1,y1,Z2,z2,y2,rfl,Hf.out⟩
    case rest =>
    obtain⟨ec,Z1,z1,y1,Z2,z2,y2,rfl,dK,c8,cC,au⟩:=hcut;obtain⟨J,bM⟩:∃ J,J=wc:=⟨_,rfl⟩;subst bM;have t:=M.trans au;have bF:=M.size;have dW:=I.size;have dr:=c8.cells;have de:=fun W (hW:Ext J W)=>cg W (au.trans hW);have dn:=dE J;have aR:=za (ad.out.trans t);clear cW cg aO aA;have u:=a9.ext t
    by_cases hv0:v.code=0
    ·have hv:=za (show S=⟨0,a,v.asm,⟨#[]⟩,r+1⟩ by
      rw [← Y.out,ao.out,if_pos hv0,if_pos rfl])
     have e0:(v.code==0)=true:=by simpa using hv0
     have dk:=za ((aD.out.own_.high).ext t);have k8:=u.cell;have f8:=u.frozen;go_wp2_with fail
     have D:=vc_fin aR.out u rfl oM (.int .i64 0) (.int .i64 a.al) (.slice AA an ac) (.slice ay aC av) (.int .i64 v.asm.al) (.slice Z1 z1 y1) (.slice Z2 z2 y2) (.string ⟨#[]⟩) (.int .i64 ((r:Int)+1));have cf:=D.1.cell;have Hx:=za D.2.2;have c4:=za ((dk.out.frm D.2.1 (fun b h1 h2 e=>by have e':b=w.heap.size+1:=e;omega)).wide (show w.heap.size<=wr.heap.size by omega) (show w9.heap.size<=E.heap.size from bF));have c5:=za (cC.keep D.2.1 (fun b h1 e=>by have e':b=w.heap.size+1:=e;omega));clear D k8 f8 u;generalize ((((((((J.setCell ⟨w.heap.size+1,0,none⟩ (0:Int)).setCell ⟨w.heap.size+1,1,none⟩ a.al).setCell ⟨w.heap.size+1,2,none⟩ (.slice AA an ac)).setCell ⟨w.heap.size+1,3,none⟩ (.slice ay aC av)).setCell ⟨w.heap.size+1,4,none⟩ v.asm.al).setCell ⟨w.heap.size+1,5,none⟩ (.slice Z1 z1 y1)).setCell ⟨w.heap.size+1,6,none⟩ (.slice Z2 z2 y2)).setCell ⟨w.heap.size+1,7,none⟩ (.string ⟨#[]⟩)).setCell ⟨w.heap.size+1,8,none⟩ (.int .i64 ((r:Int)+1))=X at *;exact bodyPost_ret (v:=.agg #[(0:Int),a.al,.slice AA an ac,.slice ay aC av,v.asm.al,.slice Z1 z1 y1,.slice Z2 z2 y2,.string ⟨#[]⟩,((r:Int)+1:Int)]) (by simp [results,Tryz.results16,go_sem,cf]) rfl (by
      rw [hv.out];exact⟨AA,an,ac,ay,aC,av,Z1,z1,y1,Z2,z2,y2,E.heap.size,sM,c4.out,c5.out,oM,Hx.out⟩)
    ·by_cases hv2:v.code=2
     ·have hv:=za (show S=⟨2,noA,noA,⟨#[]⟩,r+1⟩ by
       rw [← Y.out,ao.out,if_neg hv0,if_pos hv2,if_neg (show ¬ ((2:Int)=0) by decide),if_pos (show (2:Int)=2 from rfl)])
      have e0:(v.code==0)=false:=by simpa using hv0
      have e2:(v.code==2)=true:=by simpa using hv2
      have k8:=u.cell;have f8:=u.frozen;go_wp2_with fail
      have D:=vc_fin aR.out u rfl oM (.int .i64 2) (.int .i64 0) (.slice none 0 0) (.slice none 0 0) (.int .i64 0) (.slice none 0 0) (.slice none 0 0) (.string ⟨#[]⟩) (.int .i64 ((r:Int)+1));have cf:=D.1.cell;have Hx:=za D.2.2;clear D k8 f8 u;generalize ((((((((J.setCell ⟨w.heap.size+1,0,none⟩ (2:Int)).setCell ⟨w.heap.size+1,1,none⟩ (0:Int)).setCell ⟨w.heap.size+1,2,none⟩ ()).setCell ⟨w.heap.size+1,3,none⟩ ()).setCell ⟨w.heap.size+1,4,none⟩ (0:Int)).setCell ⟨w.heap.size+1,5,none⟩ ()).setCell ⟨w.heap.size+1,6,none⟩ ()).setCell ⟨w.heap.size+1,7,none⟩ (.string ⟨#[]⟩)).setCell ⟨w.heap.size+1,8,none⟩ (.int .i64 ((r:Int)+1))=X at *;exact bodyPost_ret (v:=.agg #[(2:Int),(0:Int),(),(),(0:Int),(),(),.string ⟨#[]⟩,((r:Int)+1:Int)]) (by simp [results,Tryz.results16,go_sem,cf]) rfl (by
       rw [hv.out];exact⟨none,0,0,none,0,0,none,0,0,none,0,0,w.heap.size,by simp [noA],zhh _ _ _,zbM _ _,dI _,Hx.out⟩)
     ·have e0:(v.code==0)=false:=by simpa using hv0
      have e2:(v.code==2)=false:=by simpa using hv2
      have ap:=zcg a3.out L;have ak:(zan v.tr L).size<=4000:=by have:=zdP v.tr L;have:=bL.out;omega
      have aN:=za (fun W=>zcR (s:=v.tr) (a:=L) (w:=W) a3.out a8);obtain⟨zz,hz⟩:∃ zz,Hid (zan v.tr L=zz):=⟨_,za rfl⟩;rw [hz.out] at ap ak aN;have ba:=za (show zaK x y z p L a=(zz,if zo x p L zz=true then -1 else 1,noA) by rw [ao.out,if_neg hv0,if_neg hv2,hz.out]);have aX:=za ap;clear ap;go_upto_region 99 with fail
      refine (aN.out _).mono (mQ fun cO cL=>?_);have U:=t.trans cL;have aH:=za (aJ.out.ext hO.out.ok U);have cn:=za (hO.out.ask _ cO S2 zz aH.out.j oM aX.out oM);have aq:=(aH.out.blk aW.out ar).1.cell;clear dr de;go_upto_region 99 with fail
      refine cn.out.mono ?_;rintro e bT ⟨S4,rfl,aZ⟩;have V:=za (aH.out.trans aZ);have aS:=za (show Ext w bT from V.out.av aT.out (fun q hs=>by have:=C.out q hs;omega));have i:=aZ.blk (a6.out.ext U) ct.out;have c6:=za ((a7.out.ext U).kp aZ);have dl:=aZ.size;clear aq;cases hsf:zo x p L zz with
      |false =>
       have hv:=za (show S=⟨1,noA,noA,zR [x,y,z] p,r+1⟩ by
        rw [← Y.out,ba.out,if_neg (show ¬ zo x p L zz=true by rw [hsf];decide),if_neg (show ¬ ((1:Int)=0) by decide),if_neg (show ¬ ((1:Int)=2) by decide),if_pos (show (1:Int)=1 from rfl)])
       have cY:=za (cX.out bT aS.out);have ca:=(V.out.blk B4.out (fun h=>by have:=C.out _ h;omega)).1;have k4:=ca.cells;have dp:=dE bT;have db:=(V.out.blk B8.out (fun h=>by have:=C.out _ h;omega)).1;generalize zR [x,y,z] p=bw at *;go_upto_region 99 with fail
       refine cY.out.mono (mQ fun wF hxF=>?_);have u:=db.ext hxF;clear k4;have k8:=u.cell;have f8:=u.frozen;go_wp2_with fail
       have D:=vc_fin (aS.out.trans hxF) u rfl oM (.int .i64 1) (.int .i64 0) (.slice none 0 0) (.slice none 0 0) (.int .i64 0) (.slice none 0 0) (.slice none 0 0) (.string bw) (.int .i64 ((r:Int)+1));have cf:=D.1.cell;have Hx:=za D.2.2;clear D k8 f8 u;generalize ((((((((wF.setCell ⟨w.heap.size+1,0,none⟩ (1:Int)).setCell ⟨w.heap.size+1,1,none⟩ (0:Int)).setCell ⟨w.heap.size+1,2,none⟩ ()).setCell ⟨w.heap.size+1,3,none⟩ ()).setCell ⟨w.heap.size+1,4,none⟩ (0:Int)).setCell ⟨w.heap.size+1,5,none⟩ ()).setCell ⟨w.heap.size+1,6,none⟩ ()).setCell ⟨w.heap.size+1,7,none⟩ bw).setCell ⟨w.heap.size+1,8,none⟩ (.int .i64 ((r:Int)+1))=X at *;exact bodyPost_ret (v:=.agg #[(1:Int),(0:Int),(),(),(0:Int),(),(),bw,((r:Int)+1:Int)]) (by simp [results,Tryz.results16,go_sem,cf]) rfl (by
        rw [hv.out];exact⟨none,0,0,none,0,0,none,0,0,none,0,0,w.heap.size,by simp [noA],zhh _ _ _,zbM _ _,dI _,Hx.out⟩)
      |true =>
       have dt:=(V.out.blk aW.out ar).1.cell;have aU:=i.1.cell;have bC:=za (zds (x:=zz) hO.out V.out.j oM c6.out hI aY (by have:=U.size;have:=I.size;omega) hL aX.out ak);go_upto_region 99 with fail
       refine bC.out.mono ?_;rintro e ej ⟨S3,aI,T⟩;have ag:=za ((V.out.trans aI).more hO.out.ok (show 21840+30000*r+1692+1+27840<=21840+30000*(r+1) by omega));have ae:=za (show chT x y z p L (12 - (r+1)) (r+1) (zaB L (zo x p L) rs cs zz)=S by
        rw [← Y.out,ba.out,if_pos hsf,if_neg (show ¬ ((-1:Int)=0) by decide),if_neg (show ¬ ((-1:Int)=2) by decide),if_neg (show ¬ ((-1:Int)=1) by decide),show 12 - (r+1)=11 - r by omega])
       have H:=za (a1.out.ao zz);have n:=aI.blk i.1 i.2;have du:=n.1.cell;have df:=n.1.frozen;have cw:=i.1.lt;clear aU dt;rcases T with ⟨hn,rfl⟩|⟨bS,bq,R2,C2,cr2,cc2,hn,rfl,bH⟩
       ·rw [hn] at H ae;go_wp2_with fail
        go_roundw
        case rel=>exact⟨r+1,none,S3,rfl,gM,oM,za ((ag.out.cell hO.out.ok (oH l.out) (oH l.out) n.2 0 _).cell hO.out.ok (oH l.out) (oH l.out) n.2 1 _),za ⟨n.2,.inl ⟨rfl,_,_,(n.1.ab 0 _).ab 1 _⟩⟩,H,ae⟩
        case measure=>simp [intOf];omega
       ·rw [hn] at H ae;have bI:=za (zeX (base:=w5.heap.size) n.1 n.2 bH (by have:=U.size;have:=I.size;omega) oM);go_wp2_with fail
        go_roundw
        case rel=>exact⟨r+1,some (bS,bq),S3,rfl,gM,oM,za ((ag.out.cell hO.out.ok (oH l.out) (oH l.out) n.2 0 _).cell hO.out.ok (oH l.out) (oH l.out) n.2 1 _),bI,H,ae⟩
        case measure=>simp [intOf];omega
   |true =>
    have ao:=za (show zaK x y z p L a=(zan (zaG x a p) L,-1,noA) by unfold zaK;rw [if_pos hub]);have ap:=zcg a4.out.1 L;have ak:(zan (zaG x a p) L).size<=4000:=by have:=zdP (zaG x a p) L;have:=a4.out.2;omega
    have aN:=za (fun W=>zcR (s:=zaG x a p) (a:=L) (w:=W) a4.out.1 a8);obtain⟨zz,hz⟩:∃ zz,Hid (zan (zaG x a p) L=zz):=⟨_,za rfl⟩;rw [hz.out] at ap ak ao aN;have aX:=za ap;clear ap bk k4 bP;go_upto_region 99 with fail
    refine (aN.out _).mono (mQ fun J bN=>?_);have t:=M.trans bN;have aG:=za (aJ.out.ext hO.out.ok t);have bC:=za (zds (x:=zz) hO.out aG.out.j oM (a7.out.ext t) hI aY (by have:=t.size;have:=I.size;omega) hL aX.out ak);have aq:=(aG.out.blk aW.out ar).1.cell;have aB:=za (a6.out.ext t);have aU:=aB.out.cell;go_upto_region 99 with fail
    refine bC.out.mono ?_;rintro e cO ⟨S3,aI,T⟩;have ag:=za ((aG.out.trans aI).more hO.out.ok (show 21840+30000*r+1692+27840<=21840+30000*(r+1) by omega));have ae:=za (show chT x y z p L (12 - (r+1)) (r+1) (zaB L (zo x p L) rs cs zz)=S by
     rw [← Y.out,ao.out,if_neg (show ¬ ((-1:Int)=0) by decide),if_neg (show ¬ ((-1:Int)=2) by decide),if_neg (show ¬ ((-1:Int)=1) by decide),show 12 - (r+1)=11 - r by omega])
    have H:=za (a1.out.ao zz);have i:=aI.blk aB.out ct.out;have du:=i.1.cell;have df:=i.1.frozen;have cw:=aB.out.lt;clear aU aq;rcases T with ⟨hn,rfl⟩|⟨bS,bq,R2,C2,cr2,cc2,hn,rfl,bH⟩
    ·rw [hn] at H ae;go_wp2_with fail
     go_roundw
     case rel=>exact⟨r+1,none,S3,rfl,gM,oM,za ((ag.out.cell hO.out.ok (oH l.out) (oH l.out) i.2 0 _).cell hO.out.ok (oH l.out) (oH l.out) i.2 1 _),za ⟨i.2,.inl ⟨rfl,_,_,(i.1.ab 0 _).ab 1 _⟩⟩,H,ae⟩
     case measure=>simp [intOf];omega
    ·rw [hn] at H ae;have bI:=za (zeX (base:=w5.heap.size) i.1 i.2 bH (by have:=t.size;have:=I.size;omega) oM);go_wp2_with fail
     go_roundw
     case rel=>exact⟨r+1,some (bS,bq),S3,rfl,gM,oM,za ((ag.out.cell hO.out.ok (oH l.out) (oH l.out) i.2 0 _).cell hO.out.ok (oH l.out) (oH l.out) i.2 1 _),bI,H,ae⟩
     case measure=>simp [intOf];omega
theorem impl_VerifyChain (h:zdG w lo hi A n ss)(hp:zF w lo1 hi1 B m B' m' p)(hT:Tab w)(hhi:hi<=w.heap.size)(hhi1:hi1<=w.heap.size) :
  Calls Tryz.prog 16 #[.slice A n c,.agg #[p.al,.slice B m d,.slice B' m' d']] w (RetVcH w (vcT ss p)):=by
 cases h3:three ss p
 ·rw [zih h3];exact zgq h hp h3
 ·obtain⟨x,y,z,rfl⟩:=zdX h3;obtain⟨q,a,f⟩:=zgo h3;have e:vcT [x,y,z] p=chT x y z p q 12 0 ((zX q (zo x p q) [⟨#[]⟩] 11 [⟨#[]⟩]).map fun r=>(r,[⟨#[]⟩])):=by
   unfold vcT;dsimp only;rw [a,if_pos oM,Int.toNat_natCast]
  rw [e];obtain rfl:n=3:=h.1;obtain⟨b,o,s,i,g,j,rfl,_,_,_⟩:=h.sys (k:=0) oM;exact zgr h hp h3 a oM hT hhi hhi1
end
def shA (al p k:Nat) (a:Aut):Prop:=a.al=al∧a.next.length=p∧a.acc.length=p∧∀ l∈a.next,l.length=k
theorem zga {a p:Nat} (h:Rd w R M)(hM:M<=900000000)(ha:a<64)(hp:p<=16) :
  Calls Tryz.prog 164 #[.pointer (some R),a,p] w (ziq R (M+400) (shA a p (letters a 6).length) w):=by
 have aq:Sm a:=tM;have ak:=h.lt
 go_enter Tryz.func164,Tryz.ntmps164
 have ab:=(dE w).alloc (.cells #[(0:Int),(),()] 27);have bz:=eX w 27 #[(0:Int),(),()];have hxG:=(dE (w.alloc (.cells #[(0:Int),(),()] 27))).alloc (.cells #[a,(),()] 27);have bG:=eX (w.alloc (.cells #[(0:Int),(),()] 27)) 27 #[a,(),()];have au:=bz.lt;have ar:(w.alloc (.cells #[(0:Int),(),()] 27)).heap.size=w.heap.size+1:=sM;rw [ar] at bG;go_upto_region 2 with fail
 generalize (w.alloc _).alloc _=w2 at *;generalize w.alloc _=S at *;go_wp2_with fail
 refine (zah a aq _).mono ?_;rintro e w3 ⟨B,d,rfl,-,G⟩;have c:zbW S w3 R (w.heap.size+1) M a (.slice none 0 0) [] [] (.slice none 0 0) []:=⟨bG.ext G,World.ownsRow_nil _ _ _ _,zC.nil _ _,World.ownsRow_nil _ _ _ _,h.ext ((ab.trans hxG).trans G),(hxG.trans G).dr,oM,oM⟩;have aI:=zA a 6;clear bG G hxG;generalize (letters a 6).length=k at *;go_wp2_with fail
 go_loopw [9] (fun iv wr=>∃ (i:Nat) (v:Value) (g:List Value) (H:List (List Int)) (vA:Value) (r:List Bool),i<=p∧iv=.int .i64 (i:Nat)∧zbW S wr R (w.heap.size+1) (M+i*20) a v g H vA r∧H.length=i∧r.length=i∧Hid (∀ l∈H,l.length=k)) (fun iv _=>p - (intOf iv).toNat)
 case atStart=>exact⟨0,_,[],[],_,[],eC _,rfl,c,rfl,rfl,za (fun l hl=>by simp at hl)⟩
 case round =>
  clear c;obtain⟨i,v,g,H,vA,r,hi,rfl,c,u,F,U⟩:=hrel
  by_cases hip:i<p
  ·have C:=za c.low;have hK:=za (show S.heap.size<=wr.heap.size from c.dr.size);have h0:=World.ownsRow_made (base:=wr.heap.size) (e:=3) (size:=1) wr #[] 0 (dI _) (eC _) rfl;have Q:=(dE wr).alloc (.cells #[] 3);have m:=c.ext Q;go_upto_region 7 with fail
   clear c;obtain⟨I,aa⟩:∃ I,I=wr:=⟨_,rfl⟩;rw [← aa] at h0 C hK m Q ⊢;clear aa;generalize I.alloc _=w4 at *;go_wp2_with fail
   go_loopw [10,11] (fun rv jv wr=>∃ (j:Nat) (l:List Int),j<=k∧jv=.int .i64 (j:Nat)∧zbW S wr R (w.heap.size+1) (M+i*20+j) a v g H vA r∧l.length=j∧wr.ownsRow I.heap.size 3 1 rv j (ints l)∧Hid (I.heap.size<=wr.heap.size)) (fun _ jv _=>k - (intOf jv).toNat)
   case atStart=>exact⟨0,[],eC _,rfl,m,rfl,h0,za Q.size⟩
   case round =>
    clear m h0;obtain⟨j,l,hj,rfl,c,t,f,ap⟩:=hrel
    by_cases hjk:j<k
    ·obtain⟨AR,cR,rfl⟩:=zi f;go_wp2_with fail
     refine (zH c.rd oM).mono ?_;rintro e w5 ⟨y,rfl,-,-,am,L⟩;have J:=c.drawn L am;have E:=zaF f L (fun b h1 e=>by have:=c.dr.size;have:=c.hR;have:=hK.out;omega);have Z:I.heap.size<=w5.heap.size:=eI ap.out L.size;have O:=za t;clear t c f;go_wp2_with (at_builtin;refine zW I w5 rfl _ _ _ rfl 3 _ 1 8 Tryz.underlying110 zae rfl dM (.slice AR j cR) j (ints l) _ _ rfl rfl Z E rfl (by simp [Value.oneCell']) lM oM ?_;intro g5 cap5 w6 hown6 hg6 hat6 hlt6)
     go_roundw
     case rel=>exact⟨j+1,l++[(y:Int)],oM,gM,(J.side C.out hK.out E hg6).more oM,by simp [O.out],by simpa [ints] using hown6,za (eI Z hg6.size)⟩
     case measure=>simp [intOf];omega
    ·obtain rfl:j=k:=oM;obtain⟨AR,cR,rfl⟩:=zi f;have cG:=c.blk.cell;have ao:=c.dr.size;have D:wr.ownsRow I.heap.size 3 1 (.slice AR j cR) l.length (ints l):=by rw [t];exact f
     go_upto_region 12 with (at_builtin;refine zW S wr rfl _ _ _ rfl 110 _ 1 24 Tryz.underlying24 zcB rfl dM v H.length g _ _ rfl rfl ao c.nx rfl (zbc _ _ _) lM oM ?_;intro g5 cap5 w6 hown6 hg6 hat6 hlt6;obtain⟨q1,q2,q3⟩:=c.bf C.out hK.out D hown6 hg6 hat6;have av:=q1.out)
     rw [u] at q3;clear q1 av q2 hown6 hg6 hat6 hlt6 f D cG c;have V:=za (show ∀ l'∈H++[l],l'.length=j from fun l' O=>by
      rcases List.mem_append.1 O with h1|h1
      ·exact U.out l' h1
      ·rw [List.mem_singleton.1 h1];exact t)
     have Y:(H++[l]).length=i+1:=by simp [u]
     clear t u;generalize H++[l]=aJ at *;generalize g++[.slice AR j cR]=aw at *;generalize w6.setCell ⟨w.heap.size+1,1,none⟩ (.slice (some g5) (i+1) cap5)=w7 at *;generalize Value.slice (some g5) (i+1) cap5=v7 at *;have cG:∀ W,Dr R w7 W->∀ q,W.cell? ⟨w.heap.size+1,q,none⟩=#[Value.int .i64 a,v7,vA][q]?:=fun W hW=>(q3.blk.dr hW oM).cell;refine tR (fun X=>Dr R w7 X) [6,8] (Ord.of [0,1,2,3,4,5,6,7,8]) ?_;refine tQ ?_;refine zI fun K hK=>?_;go_simp;refine (zH (n:=3) (q3.rd.ext ((dE _).drew)) oM).mono ?_;rintro e w8 ⟨z,rfl,-,-,an,al⟩;have s:Dr R w7 w8:=((Dr.refl R w7).drew).trans al;have o:=q3.drawn s an;refine hK.out _ _ s ?_;refine pT ?_;refine tQ ?_;refine zI fun K hK=>?_;go_simp;refine hK.out _ _ (s.alloc _) ?_;refine pT ?_;refine zab fun K hK=>?_
     trace_state
     refine zaH S w8 _ _ _ rfl 4 _ 1 1 Tryz.underlying25 zbh rfl dM vA r.length (zak r) _ _ rfl rfl o.dr.size o.acc rfl (by simp [Value.oneCell']) lM oM ?_;intro g9 cap9 w9 hown9 hg9 hat9 hlt9;refine hK.out _ _ ?_;refine pT ?_;refine tQ ?_;obtain⟨p1,p2,p3⟩:=o.ar (x:=decide (0<z)) (W':=w9) hown9 hg9 hat9;have aL:=p1.out;rw [F] at p3;refine zab fun K hK=>?_;go_simp;refine hK.out _ _ ?_;refine zaD ?_;go_wp2_with fail
     go_roundw
     case rel=>exact⟨i+1,_,_,_,_,_,oM,gM,p3.more oM,Y,by simp [F],V⟩
     case measure=>simp [intOf];omega
  ·obtain rfl:i=p:=oM;obtain⟨A5,c5,rfl⟩:=zi c.nx;obtain⟨B5,d5,rfl⟩:=zi c.acc;obtain⟨f1,f2⟩:=c.fin (N:=M+400) (sh:=shA a i k) ab bz rfl ak (dI _) au oM ⟨rfl,u,F,U.out⟩;rw [u,F] at f1 f2;have cG:=c.blk.cell;have T:=bz.dr c.dr oM;have cZ:=T.cell;have fZ:=T.frozen;go_wp2_with fail
   have cf:=f2.cell;exact bodyPost_ret (v:=.agg #[a,.slice A5 i c5,.slice B5 i d5]) (by simp [results,Tryz.results164,go_sem,cf]) rfl f1.out
section
variable {w0 W W':World} {R G M N:Nat} {al:Int} {v vA:Value} {rows:List Value} {ls:List (List Int)} {acc:List Bool}
theorem zbW.of (ho:zN W w0.heap.size A n c A' n' c' a)(hr:Rd W R M)(hd:Dr R w0 W)(hR:R<w0.heap.size) :
  ∃ rows,zbW w0 (W.alloc (.cells #[a.al,.slice A n c,.slice A' n' c'] 27)) R W.heap.size M a.al (.slice A n c) rows a.next (.slice A' n' c') a.acc:=by
 obtain⟨⟨rows,h1,h2⟩,g,d,f⟩:=ho;have b:=(dE W).alloc (.cells #[a.al,.slice A n c,.slice A' n' c'] 27);refine⟨rows,eX W _ _,zh h1 b,h2.keep b.ak (fun _ _=>id),?_,hr.ext b,hd.ext b,hR,hd.size⟩;rw [← f];exact zh d b
theorem zbW.setAcc {x:Bool}(h:zbW w0 W R G M al v rows ls (.slice (some g) n c) acc)(hn:n=acc.length) :
  zbW w0 (W.setCell ⟨g,i,none⟩ (.bool x)) R G M al v rows ls (.slice (some g) n c) (acc.set i x):=by
 subst hn;have hf:=eB W g i (.bool x);have f:=(h.acc.lt g rfl).1;have d:=h.hR;have a:=(h.acc.stored i (.bool x)).1;rw [show (zak acc).set i (.bool x)=zak (acc.set i x) by simp [zak,List.map_set]] at a;refine⟨h.blk.frm hf (fun e=>zr h.acc h.blk dM rfl e.symm),zf h.nx hf (fun b hb hS=>?_),h.rows.frm hf (fun i' r b hr hb hS=>?_),by simpa using a,h.rd.frm hf (fun k hk e=>oM),h.dr.ag (p:=⟨g,i,none⟩) f _,d,h.hG⟩
 ·subst hS;exact zas h.nx h.acc dM hb rfl
 ·subst hS;obtain⟨l,_,j⟩:=h.rows.row hr;exact zas j h.acc dM hb rfl
theorem zbW.setRow {x:Int} (h:zbW w0 W R G M al v rows ls vA acc)(hr:rows[i]?=some (.slice (some g) n c))(hl:ls[i]?=some l)(hn:n=l.length) :
  zbW w0 (W.setCell ⟨g,k,none⟩ x) R G M al v rows (ls.set i (l.set k x)) vA acc:=by
 subst hn;have hf:=eB W g k (.int .i64 x);have a:=h.rows.2.1 i _ l hr hl;have o:=(a.lt g rfl).1;have f:=h.hR;have d:=(a.stored k (.int .i64 x)).1;rw [show (ints l).set k (.int .i64 x)=ints (l.set k x) by simp [ints,List.map_set]] at d;have m:Frm (Go.Proofs.YtckbjnndaaoddaaGreatDoor.blk (some ⟨g,0,none⟩)) W (W.setCell ⟨g,k,none⟩ x):=hf.mono (fun b _ hb=>⟨_,rfl,hb.symm⟩);refine⟨h.blk.frm hf (fun e=>zr a h.blk dM rfl e.symm),?_,?_,zf h.acc hf (fun b hb hS=>?_),h.rd.frm hf (fun k hk e=>oM),h.dr.ag (p:=⟨g,k,none⟩) o _,f,h.hG⟩
 ·rw [gU];exact zf h.nx hf (fun b hb hS=>by subst hS;exact zas h.nx a dM hb rfl)
 ·have:=h.rows.ab (w':=W.setCell ⟨g,k,none⟩ x) (j:=i) (l:=l.set k x) (A:=some ⟨g,0,none⟩) (c:=c) (by simpa using hr) m (by simpa using d);exact this
 ·subst hS;exact zas h.acc a dM hb rfl
theorem zbW.row (h:zbW w0 W R G M al (.slice (some g) n c) rows ls vA acc)(hl:ls[i]?=some l)(hn:n=ls.length) :
  ∃ Ar cr,rows[i]?=some (.slice Ar l.length cr)∧W.cell? ⟨g,i,none⟩=some (.slice Ar l.length cr)∧W.ownsRow w0.heap.size 3 1 (.slice Ar l.length cr) l.length (ints l):=by
 subst hn;have f:i<ls.length:=(List.getElem?_eq_some_iff.1 hl).1;have b:i<rows.length:=by rw [h.rows.1];exact f
 have a:rows[i]?=some rows[i]:=dH b;have d:=h.rows.2.1 i _ l a hl;obtain⟨Ar,cr,e⟩:=zi d;rw [e] at a d;exact⟨Ar,cr,a,by rw [h.nx.cellAt i oM,a],d⟩
end
theorem zia {a p:Nat} (h:Rd w R M)(hM:M<=900000000)(ha:a<64)(hp0:1<=p)(hp:p<=16) :
  Calls Tryz.prog 162 #[.pointer (some R),a,p] w (ziq R (M+400) (shA a p (letters a 6).length) w):=by
 have ad:=h.lt
 go_enter Tryz.func162,Tryz.ntmps162
 go_wp2_with fail
 generalize U0:w.alloc _=w1 at *;have O:=iY U0;have Y:=eS U0;have ae:=Y.lt;clear U0;refine (zga (h.ext O) hM ha hp).mono ?_;rintro e w2 ⟨b,A,n,c,A',n',Z,rfl,y,L,J,D⟩;obtain⟨z,d⟩:=zbW.of y J D oM;obtain⟨s1,U,V,s4⟩:=L.out;have S:n=b.next.length:=y.2.1;have u:n'=b.acc.length:=y.2.2.2;obtain⟨an,B,am⟩:=b;dsimp only at *;subst s1;rw [U] at S;rw [V] at u;replace S:=S.symm;replace u:=u.symm;subst S;subst u;have hG:=D.size;clear y J D L;have S4:=za s4;clear s4;have ay:=zA a 6;generalize (letters a 6).length=k at *;obtain⟨gA,rfl,av,-⟩:=zad (V ▸ d.acc) hp0;obtain⟨gN,rfl,aw,-⟩:=zad (U ▸ d.nx) hp0;have S2:=za U;have S3:=za V;clear U V;go_upto_region 2 with fail
 generalize w2.alloc _=w3 at *;generalize w2.heap.size=G at *;go_wp2_with fail
 go_loopw [8] (fun iv wr=>∃ (i:Nat) (r:List Bool),i<=p∧iv=.int .i64 (i:Nat)∧zbW w1 wr R G (M+400) a (.slice (some gN) p c) z B (.slice (some gA) p Z) r∧Hid (r.length=p)) (fun iv _=>p - (intOf iv).toNat)
 case atStart=>exact⟨0,_,eC _,rfl,d,S3⟩
 case round =>
  clear d;obtain⟨i,r,hi,rfl,d,s⟩:=hrel
  by_cases hip:i<p
  ·have cG:=d.blk.cell;have T:=d.acc;rw [s.out] at T;obtain⟨o0,c0⟩:=zbd T i oM;have f0:=T.frozenAt i;have q:=d.setAcc (i:=i) (x:=decide ((i:Int)<(p:Int) - 1)) s.out.symm;clear T;go_wp2_with fail
   go_roundw
   case rel=>exact⟨i+1,_,oM,gM,q,za (by rw [gU];exact s.out)⟩
   case measure=>simp [intOf];omega
  ·clear hi;have I:p - 1<B.length:=oH S2.out;obtain⟨l0,f⟩:∃ l,B[p - 1]?=some l:=⟨_,dH I⟩;have m:=za (S4.out l0 (dG f));have X:=za f;have az:((p:Int) - 1).toNat=p - 1:=oM;clear f I;go_wp2_with fail
   go_loopw [9] (fun iv wr=>∃ (j:Nat) (Q:List (List Int)) (l:List Int),j<=k∧iv=.int .i64 (j:Nat)∧zbW w1 wr R G (M+400) a (.slice (some gN) p c) z Q (.slice (some gA) p Z) r∧Hid (Q.length=p)∧Hid (∀ l∈Q,l.length=k)∧Hid (Q[p - 1]?=some l)) (fun iv _=>k - (intOf iv).toNat)
   case atStart=>exact⟨0,_,_,eC _,rfl,d,S2,S4,X⟩
   case round =>
    clear d m;obtain⟨j,Q,l,hj,rfl,d,t,E,f⟩:=hrel;have m:=E.out l (dG f.out);obtain⟨Ar,cr,F,C,o⟩:=d.row f.out t.out.symm;have cG:=d.blk.cell;rw [m] at F C o;have HR:=za F;clear F
    by_cases hjk:j<k
    ·obtain⟨g,rfl,-,-⟩:=zad o oM;obtain⟨o0,c0⟩:=zbd o j oM;have f0:=o.frozenAt j;have q:=d.setRow (k:=j) (x:=(p:Int) - 1) HR.out f.out m.symm;clear o;have HL:=za m;clear m;go_wp2_with fail
     go_roundw
     case rel =>
      refine⟨j+1,_,l.set j ((p:Int) - 1),oM,gM,q,za (by rw [gU];exact t.out),za (fun l' hl'=>?_),za ?_⟩
      ·rcases List.mem_or_eq_of_mem_set hl' with h1|h1
       ·exact E.out l' h1
       ·rw [h1,gU];exact HL.out
      ·have:=t.out;rw [List.getElem?_set_self oM]
     case measure=>simp [intOf];omega
    ·obtain⟨f1,f2⟩:=d.fin (N:=M+400) (sh:=shA a p k) O Y rfl ad (dI _) ae oM ⟨rfl,t.out,s.out,E.out⟩;have H:=Y.dr d.dr oM;have cZ:=H.cell;have fZ:=H.frozen;clear o m;go_wp2_with fail
     have cf:=f2.cell;exact bodyPost_ret (v:=.agg #[a,.slice (some gN) p c,.slice (some gA) p Z]) (by simp [results,Tryz.results162,go_sem,cf]) rfl f1.out
end Go.Proofs.YtckbjnndaaoddaaGreatDoor
