/- impl.TaskOf -/
import Derived.Test.YtcfchopfijalpaaGreatDoorD14
import Derived.Laws.StructEq
set_option maxHeartbeats 4000000
set_option maxRecDepth 100000
namespace Go.Proofs.YtcfchopfijalpaaGreatDoor
open Go Go.RowKit
open Blk renaming new->dX
open Ext renaming bl_->dZ,eq_->eZ,refl->cY
open Frm renaming setCell->dH
open List renaming getElem?_eq_getElem->dF,getElem?_set_ne->fN,getElem?_set_self->eS,length_cons->fY,length_set->fJ,mem_of_getElem?->dE,nil_append->eJ
open Nat renaming le_refl->dG,le_trans->dO,zero_add->dW,zero_le->dI
variable {A A':Option Addr} {G L M N R Z a base c c' g i n n' p:Nat} {W w w' w0 w1:World} {al st x:Int} {b:Aut} {cs us:Array Value} {es:List Edg} {l:List Int} {s:Sys} {v v':Value}
section
variable {w:World} {lo hi n c lo1 hi1 m d m' d' lo2 hi2 k c2:Nat} {A B B' C:Option Addr} {s t:Sys} {p:Aut}
theorem impl_TaskOf (hs:zP w lo hi A n s)(hp:zH w lo1 hi1 B m B' m' p)(ht:zP w lo2 hi2 C k t)(hif:iface s p t=(L:Int))(hn:n<=1000000) :
  Calls Tryz.prog 169 #[.agg #[s.al,s.st,.slice A n c],.agg #[p.al,.slice B m d,.slice B' m' d'],.agg #[t.al,t.st,.slice C k c2]] w (zjn w s p L):=by
 obtain⟨vs,Z,vt⟩:=zbm (show 0<=iface s p t by omega);have hL:L<64:=by
  rw [zeF vs Z vt] at hif;have h1:=zR vt;have h2:((s.al.toNat|||p.al.toNat)&&&t.al.toNat)<=t.al.toNat:=Nat.and_le_right;omega
 have J:=za (fun W (hW:Ext w W)=>zcT (c:=c) (d1:=d) (d1':=d') (c2:=c2) (hs.ext hW) (hp.ext hW) (ht.ext hW));rw [hif] at J;have HK:=za (fun W (hW:Ext w W)=>clone_edge (c:=c) (hs.2.ext hW) oM);have HC:=za (fun W (hW:Ext w W)=>zaW (c:=d) (c':=d') (hp.ext hW) (zcZ Z));have hV:=za (And.intro vs (And.intro Z hL));have ah:=za hs.1;clear hs hp ht hif vs Z vt;obtain⟨w0,U0⟩:∃ x,Hid ((((w.alloc (.cells #[s.al,s.st,.slice A n c] 38)).alloc (.cells #[p.al,.slice B m d,.slice B' m' d'] 31)).alloc (.cells #[t.al,t.st,.slice C k c2] 38)).alloc (.cells #[(0:Int),(0:Int),(),(0:Int),(),(),(0:Int)] 96)=x):=⟨_,za rfl⟩;have G:Ext w w0:=(((((cY _).alloc _).alloc _).alloc _).alloc _).trans (eZ U0.out);obtain⟨b1,b2,b3⟩:=zL (((cY _).alloc (.cells #[(0:Int),(0:Int),(),(0:Int),(),(),(0:Int)] 96)).trans (eZ U0.out));have b4:=dZ U0.out;simp only [World.size_alloc] at b4;have aF:¬ ((L:Int)<0):=oM
 go_enter Tryz.func169,Tryz.ntmps169
 go_upto_region 1 with fail
 rw [U0.out] at *;have k1:=b1.cell;have k2:=b2.cell;have k3:=b3.cell;go_upto_region 4 with (go_at_call 188;refine (J.out _ G).mono (mQ fun w1 i=>?_))
 have H:=G.trans i;have E:=b1.ext i;have k1:=E.cell;go_upto_region 99 with fail
 refine (HK.out _ H).mono ?_;rintro e w2 ⟨v',rfl,Y,u⟩;obtain⟨g,h,rfl⟩:=zi Y;have l:=E.ext u;have k1:=l.cell;have f1:=l.frozen;have O:=b4.ext (i.trans u);have M:=b2.ext (i.trans u);go_upto_region 5 with fail
 have F:=dH w2 w.heap.size 2 (.slice g n h);have o:Ext w (w2.setCell ⟨w.heap.size,2,none⟩ (.slice g n h)):=(H.trans u).frm F (fun q hq e=>by have e':q=w.heap.size:=e;omega);have ab:Blk (w2.setCell ⟨w.heap.size,2,none⟩ (.slice g n h)) w.heap.size 38 #[.int .i64 s.al,.int .i64 s.st,.slice g n h]:=by simpa using l.ab 2 (.slice g n h)
 have Q:=O.far (p:=⟨w.heap.size,2,none⟩) (by show w.heap.size+1+1+1≠w.heap.size;omega) (.slice g n h);have ad:=M.far (p:=⟨w.heap.size,2,none⟩) (by show w.heap.size+1≠w.heap.size;omega) (.slice g n h);have ay:=H.size;have ax:=G.size;have au:=b4.lt;have aw:=i.size;have T:=zg Y F (fun b hb e=>zQ Y l dM hb e);clear k1 f1 k2 k3 E l O M F Y;generalize w2.setCell ⟨w.heap.size,2,none⟩ (.slice g n h)=I at *;have C1:∀ X,Ext I X->∀ q,X.cell? ⟨w.heap.size,q,none⟩=#[Value.int .i64 s.al,.int .i64 s.st,.slice g n h][q]?:=fun X hX=>(ab.ext hX).cell;have C2:∀ X,Ext I X->∀ q,X.cell? ⟨w.heap.size+1,q,none⟩=#[Value.int .i64 p.al,.slice B m d,.slice B' m' d'][q]?:=fun X hX=>(ad.ext hX).cell;have V:=cY I;refine uR (fun X=>Ext I X) [5] (zv.of [0,1,3,2,4,5,6]) ?_;refine uQ ?_;refine ze fun K hK=>?_;go_simp;refine (HC.out _ (o.trans V.drew)).mono ?_;rintro e w4 ⟨r,y,d1,a,f,d1',rfl,S,ai⟩;have j:=V.drew.trans ai;refine hK.out _ _ j ?_;refine pT ?_;refine uQ ?_;have bz:=Q.ext j;have kz:=bz.cell;have fz:=bz.frozen;have U:=zh T j;have av:=bz.lt;have ar:=j.size;have aD:=o.size;have D:zP w4 (w.heap.size+1+1+1+1) w4.heap.size g n s:=⟨ah.out,(Reads.af U).more oM (dG _)⟩;have ag:=Q.lt;have aG:I.drew.heap.size=I.heap.size:=rfl;have z:zH w4 (w.heap.size+1+1+1+1) w4.heap.size r y a f p:=(S.reads).more oM (dG _);have R:Frm (fun k=>k=w.heap.size+1+1+1) w4 (((((((w4.setCell ⟨w.heap.size+1+1+1,0,none⟩ s.al).setCell ⟨w.heap.size+1+1+1,1,none⟩ s.st).setCell ⟨w.heap.size+1+1+1,2,none⟩ (.slice g n h)).setCell ⟨w.heap.size+1+1+1,3,none⟩ p.al).setCell ⟨w.heap.size+1+1+1,4,none⟩ (.slice r y d1)).setCell ⟨w.heap.size+1+1+1,5,none⟩ (.slice a f d1')).setCell ⟨w.heap.size+1+1+1,6,none⟩ L):=
  ((((((dH w4 _ 0 _).trans (dH _ _ 1 _)).trans (dH _ _ 2 _)).trans (dH _ _ 3 _)).trans (dH _ _ 4 _)).trans (dH _ _ 5 _)).trans (dH _ _ 6 _)
 have bW:Blk (((((((w4.setCell ⟨w.heap.size+1+1+1,0,none⟩ s.al).setCell ⟨w.heap.size+1+1+1,1,none⟩ s.st).setCell ⟨w.heap.size+1+1+1,2,none⟩ (.slice g n h)).setCell ⟨w.heap.size+1+1+1,3,none⟩ p.al).setCell ⟨w.heap.size+1+1+1,4,none⟩ (.slice r y d1)).setCell ⟨w.heap.size+1+1+1,5,none⟩ (.slice a f d1')).setCell ⟨w.heap.size+1+1+1,6,none⟩ L) (w.heap.size+1+1+1) 96 #[.int .i64 s.al,.int .i64 s.st,.slice g n h,.int .i64 p.al,.slice r y d1,.slice a f d1',.int .i64 L]:=by
  simpa using ((((((bz.ab 0 (.int .i64 s.al)).ab 1 (.int .i64 s.st)).ab 2 (.slice g n h)).ab 3 (.int .i64 p.al)).ab 4 (.slice r y d1)).ab 5 (.slice a f d1')).ab 6 (.int .i64 L)
 refine zb fun K hK=>?_;go_simp;generalize (((((((w4.setCell ⟨w.heap.size+1+1+1,0,none⟩ s.al).setCell ⟨w.heap.size+1+1+1,1,none⟩ s.st).setCell ⟨w.heap.size+1+1+1,2,none⟩ (.slice g n h)).setCell ⟨w.heap.size+1+1+1,3,none⟩ p.al).setCell ⟨w.heap.size+1+1+1,4,none⟩ (.slice r y d1)).setCell ⟨w.heap.size+1+1+1,5,none⟩ (.slice a f d1')).setCell ⟨w.heap.size+1+1+1,6,none⟩ L)=X at *;have hret:=za (show zjn w s p L (.returned (.tuple #[.agg #[s.al,s.st,.slice g n h,p.al,.slice r y d1,.slice a f d1',L],.bool true])) X from
  ⟨g,n,h,r,y,d1,a,f,d1',rfl,⟨⟨w.heap.size+1+1+1+1,w4.heap.size,D.frm R (fun k h1 h2 e=>oM),z.frm R (fun k h1 h2 e=>oM),R.size⟩,hV.out.1,hV.out.2.1,hV.out.2.2⟩,(o.trans j).frm R (fun k hk e=>oM)⟩)
 have cf:=bW.cell;clear R bW D z kz fz bz U S T;refine hK.out _ _ ?_;clear hK;refine pT ?_;refine uQ ?_;refine zf ?_;go_wp2_with fail
 exact bodyPost_ret (v:=.tuple #[.agg #[s.al,s.st,.slice g n h,p.al,.slice r y d1,.slice a f d1',L],.bool true]) (by simp [results,Tryz.results169,go_sem,cf]) rfl hret.out
end
theorem noA_own (W:World) (base:Nat):zab W base none 0 0 none 0 0 noA:=⟨⟨[],World.ownsRow_nil _ _ _ _,zD.nil _ _⟩,rfl,World.ownsRow_nil _ _ _ _,rfl⟩
section
variable {w:World} {lo1 hi1 lo2 hi2 k c2 k1 d1 k1' d1':Nat} {C X X':Option Addr} {t:Sys} {a:Aut}
theorem zfC (ht:zP w lo2 hi2 C k t)(ha:zH w lo1 hi1 X k1 X' k1' a)(hT:Tab w) :
  Calls Tryz.prog 170 #[.agg #[t.al,t.st,.slice C k c2],.agg #[a.al,.slice X k1 d1,.slice X' k1' d1']] w fun e w'=>e=.returned (.tuple #[.string (zas [t] a),.bool (zbG [t] a)])∧Ext w w':=by
 have n:=za (fun W (hW:Ext w W)=>ht.ext hW);have j:=za (fun W (hW:Ext w W)=>ha.ext hW);have l:=za (fun W (hW:Ext w W)=>hT.ext hW);clear ht ha hT
 go_enter Tryz.func170,Tryz.ntmps170
 go_upto_region 1 with fail
 generalize U0:(w.alloc _).alloc _=i at *;obtain⟨d,o,p⟩:=Ext.x2_ U0;clear U0;have u:=o.cell;have b:=(cY i).alloc (.cells #[t.al,t.st,.slice C k c2] 38);have h:=dX i 38 #[t.al,t.st,.slice C k c2];obtain⟨s,r,f⟩:=zjg h (n.out _ (d.trans b));have q:=(p.ext b).cell;have m:=za (zbY (c:=1) (d2:=d1) (d2':=d1') f (j.out _ (d.trans b)) (l.out _ (d.trans b)));clear f h;go_wp2_with fail
 refine m.out.mono (mQ fun v g=>?_);go_wp2_with fail
 go_ret2;exact⟨rfl,(d.trans b).trans g⟩
end
section
variable {w:World} {lo hi n c lo1 hi1 m d m' d' lo2 hi2 k c2:Nat} {A B B' C:Option Addr} {s t:Sys} {p:Aut}
theorem zhM {P:Program} (w:World) (d:Nat) (t:TypeId) {ps rs:Array TypeId} {v:Bool}(h:P.underlying t=some (.func ps rs v)):(Op.equalIn (d+1) t .nilFunc .nilFunc).run P w=.ok true w:=by
 simp [Op.equalIn,run_underlying h]
@[go_sem] theorem neq_nilFunc {P:Program} (w:World) (t:TypeId) {ps rs:Array TypeId} {v:Bool} (h:P.underlying t=some (.func ps rs v)):(binOp .neq t .nilFunc .nilFunc).run P w=.ok (.bool false) w:=by
 simp only [binOp];simp [show (Op.equal t .nilFunc .nilFunc).run P w=.ok true w from zhM w 9999 t h]
@[go_sem] theorem neq_nilFuncP (w:World):(binOp .neq 195 .nilFunc .nilFunc).run Tryz.prog w=.ok (.bool false) w:=neq_nilFunc w _ rfl
theorem store_func (kn:Nat) (rc:Value) (X:World) (g:Nat)(h1:(X.cell? ⟨g,1,none⟩).isSome=true)(h2:X.frozen? ⟨g,1,none⟩=false):(store ⟨g,1,none⟩ (.func (.func kn) #[rc] #[])).run Tryz.prog X=.ok () (X.setCell ⟨g,1,none⟩ (.func (.func kn) #[rc] #[])):=by
 rw [run_store _ _ _ _ _ rfl];obtain⟨u,a⟩:=Option.isSome_iff_exists.1 h1;rw [a,h2];rfl
theorem vd_fin {a0 a1 a2 a3 a4 a5:Value}(hx:Ext w W)(hb:Blk W Z 67 #[a0,a1,a2,a3,a4,a5])(hZ:w.heap.size<=Z) (u0 u1 u2 u3 u4 u5:Value) :
  Blk ((((((W.setCell Z u0).setCell ⟨Z,1,none⟩ u1).setCell ⟨Z,2,none⟩ u2).setCell ⟨Z,3,none⟩ u3).setCell ⟨Z,4,none⟩ u4).setCell ⟨Z,5,none⟩ u5) Z 67 #[u0,u1,u2,u3,u4,u5] ∧
  Frm (fun k=>k=Z) W ((((((W.setCell Z u0).setCell ⟨Z,1,none⟩ u1).setCell ⟨Z,2,none⟩ u2).setCell ⟨Z,3,none⟩ u3).setCell ⟨Z,4,none⟩ u4).setCell ⟨Z,5,none⟩ u5) ∧
  Ext w ((((((W.setCell Z u0).setCell ⟨Z,1,none⟩ u1).setCell ⟨Z,2,none⟩ u2).setCell ⟨Z,3,none⟩ u3).setCell ⟨Z,4,none⟩ u4).setCell ⟨Z,5,none⟩ u5):=by
 have a:=zid W Z u0 u1 u2 u3 u4 u5;exact⟨by simpa using (((((hb.ab 0 u0).ab 1 u1).ab 2 u2).ab 3 u3).ab 4 u4).ab 5 u5,a,hx.frm a (fun q hq e=>by have b:q=Z:=e;omega)⟩
def TabV3 (W:World) (S:Nat->Prop) (base g:Nat) (o:Option (List ByteArray × List ByteArray)):Prop:=
 ¬ S g∧((o=none∧∃ u v,Blk W g 101 #[u,v])∨∃ (rs cs:List ByteArray) (R C:Option Addr) (cr cc:Nat),o=some (rs,cs)∧Blk W g 101 #[.slice R rs.length cr,.slice C cs.length cc]∧zhr W S base R rs.length cr C cs.length cc rs cs)
theorem zjk {S:Nat->Prop} {base' cr2 cc2:Nat} {R2 C2:Option Addr} {u:Value} {rs2 cs2:List ByteArray}(hb:Blk W g 101 #[u,v])(hg:¬ S g)(ht:zhr W S base' R2 rs2.length cr2 C2 cs2.length cc2 rs2 cs2)(h1:base<=base')(h2:g<base') :
  TabV3 ((W.setCell g (.slice R2 rs2.length cr2)).setCell ⟨g,1,none⟩ (.slice C2 cs2.length cc2)) S base g (some (rs2,cs2)):=by
 have i:=(ht.r.frm (dH W g 0 (.slice R2 rs2.length cr2)) (fun b hb e=>by have:=(ht.r.own.lt b hb).1;have f:b=g:=e;omega));have h:=(ht.c.frm (dH W g 0 (.slice R2 rs2.length cr2)) (fun b hb e=>by have:=(ht.c.own.lt b hb).1;have f:b=g:=e;omega));have d:=(i.frm (dH _ g 1 (.slice C2 cs2.length cc2)) (fun b hb e=>by have:=(i.own.lt b hb).1;have f:b=g:=e;omega));have a:=(h.frm (dH _ g 1 (.slice C2 cs2.length cc2)) (fun b hb e=>by have:=(h.own.lt b hb).1;have f:b=g:=e;omega));exact⟨hg,.inr ⟨rs2,cs2,R2,C2,cr2,cc2,rfl,by simpa using (hb.ab 0 (.slice R2 rs2.length cr2)).ab 1 (.slice C2 cs2.length cc2),⟨⟨zq d.own h1,d.far⟩,⟨zq a.own h1,a.far⟩⟩⟩⟩
theorem zhR (hs:zP w lo hi A n s)(hp:zH w lo1 hi1 B m B' m' p)(ht:zP w lo2 hi2 C k t)(hif:iface s p t=(L:Int))(hn:n<=1000000)(hT:Tab w) :
  Calls Tryz.prog 91 #[.agg #[s.al,s.st,.slice A n c],.agg #[t.al,t.st,.slice C k c2],.agg #[p.al,.slice B m d,.slice B' m' d'],.nilFunc] w (zhb w (vpT s t p)):=by
 obtain⟨vs,vp,vt⟩:=zbm (show 0<=iface s p t by omega);have cm:=za (fun W (hW:Ext w W)=>impl_TaskOf (c:=c) (d:=d) (d':=d') (c2:=c2) (hs.ext hW) (hp.ext hW) (ht.ext hW) hif hn);have HS:=za (fun W (hW:Ext w W)=>hs.ext hW);have HP:=za (fun W (hW:Ext w W)=>hp.ext hW);have cn:=za (fun W (hW:Ext w W)=>ht.ext hW);have cl:=za (fun W (hW:Ext w W)=>show Calls Tryz.prog 49 #[.slice (some W.heap.size) 2 2,.agg #[p.al,.slice B m d,.slice B' m' d']] (W.alloc (.cells #[s.al,s.st,.slice A n c,t.al,t.st,.slice C k c2] 38)) (fun e w'=>e=.returned (.tuple #[.string (zas [s,t] p),.bool (zbG [s,t] p)])∧Ext W w') from by
  have f6:=(cY W).alloc (.cells #[s.al,s.st,.slice A n c,t.al,t.st,.slice C k c2] 38);obtain⟨l1,l2,cJ⟩:=sl_pair (dX W 38 #[s.al,s.st,.slice A n c,t.al,t.st,.slice C k c2]) (hs.ext (hW.trans f6)) (ht.ext (hW.trans f6));exact (zbY cJ (hp.ext (hW.trans f6)) (hT.ext (hW.trans f6))).mono (fun e w' h=>⟨h.1,f6.trans h.2⟩))
 have cL:=za (zgJ hif);have aq:=za hT;clear hs hp ht hT
 go_enter Tryz.func91,Tryz.ntmps91
 go_upto_region 1 with fail
 obtain⟨w1,U0⟩:∃ x,Hid ((((w.alloc (.cells #[s.al,s.st,.slice A n c] 38)).alloc (.cells #[t.al,t.st,.slice C k c2] 38)).alloc (.cells #[p.al,.slice B m d,.slice B' m' d'] 31)).alloc (.cells #[(0:Int),(0:Int),(),(),.string ⟨#[]⟩,(0:Int)] 67)=x):=⟨_,za rfl⟩;obtain⟨b4,b5,b6⟩:=zL (((cY _).alloc (.cells #[(0:Int),(0:Int),(),(),.string ⟨#[]⟩,(0:Int)] 67)).trans (eZ U0.out));have b8:=dZ U0.out;simp only [World.size_alloc] at b8;have aP:Ext w w1:=(((((cY _).alloc _).alloc _).alloc _).alloc _).trans (eZ U0.out);rw [U0.out] at *;have k4:=b4.cell;have k5:=b5.cell;have k6:=b6.cell;go_upto_region 4 with (go_at_call 169;refine (cm.out _ aP).mono ?_;rintro e w2 ⟨A1,n1,c1,B1,m1,d1,bq,bZ,d1',rfl,cE,aY⟩)
 have aT:=cE.ext ((cY w2).alloc (.cells #[s.al,s.st,.slice A1 n1 c1,p.al,.slice B1 m1 d1,.slice bq bZ d1',L] 96));have M:=aY.trans ((cY w2).alloc (.cells #[s.al,s.st,.slice A1 n1 c1,p.al,.slice B1 m1 d1,.slice bq bZ d1',L] 96));generalize U0:w2.alloc _=w3 at *;have b9:=dZ U0;clear U0;have k9:=b9.cell;obtain⟨dC,dz,cI,cH,cF⟩:=aT.at_;have hL:=aT.lt;have bS:=za (ziB (c:=c1) (d:=d1) (d':=d1') (cY w3) cI cH vs vp hL cF (aq.out.ext (aP.trans M)));have bT:=store_func (155);go_upto_region 5 with (go_at_call 79;refine bS.out.mono ?_;rintro e w4 ⟨F,S0,rfl,cG,cC,cB,cA,bE,dx,hJ,aZ⟩)
 have S:=za (show zhI w3.heap.size L (zy s p L) (SafJ F) 155 (.pointer (some ⟨F.G,0,none⟩)) by
  have:=sf_orc cG;rwa [cC,cB,cA,bE] at this)
 have ah:=za (fun (q:Nat) (hq:w4.heap.size<=q)=>zcd.fresh S.out.ok hJ hq);generalize U0:w4.alloc _=w5 at *;obtain⟨aA,a3⟩:=Ext.x1_ U0;have bM:=S.out.ok.keep hJ aA (fun _ _ h=>h.elim);have O:=aZ.trans aA;clear U0;have af:=a3.cell;have bQ:=za (or_newTable S.out bM oM O.size hL);have dh:=aZ.size;go_upto_region 99 with fail
 refine bQ.out.mono ?_;rintro e w6 ⟨S6,aL,V⟩;rcases V with ⟨bP,rfl⟩|⟨bk,a4,R0,C0,bB,bA,bR,rfl,bH⟩
 ·obtain⟨r,hr⟩:=newT_some L (zy s p L);rw [hr] at bP;cases bP
 obtain⟨w7,U0⟩:∃ x,Hid (w6.alloc (.cells #[.slice R0 bk.length bB,.slice C0 a4.length bA] 101)=x):=⟨_,za rfl⟩;have i:=dZ U0.out;have a0:Ext w6 w7:=((cY _).alloc _).trans (eZ U0.out);obtain⟨a7,l⟩:∃ g,Hid (g=w6.heap.size):=⟨_,za rfl⟩;have bG:=za (fun (q:Nat) (hq:w6.heap.size<=q)=>zcd.fresh S.out.ok aL.j hq);go_upto_region 6 with fail
 rw [← l.out] at i ⊢;rw [U0.out] at *;have u:=za (show ∀ q:Nat,S0 q->w3.heap.size<=q from fun q h=>by have:=S.out.ok.low bM q h;omega);have bN:=za ((aL.ext S.out.ok a0).more S.out.ok (show 0+21840<=21840+30000*0 by omega));obtain⟨o0,aO⟩:∃ o0:Option (List ByteArray × List ByteArray),Hid ((zat L (zy s p L) [⟨#[]⟩] 11 [⟨#[]⟩]).map (fun r=>(r,[(⟨#[]⟩:ByteArray)]))=o0):=⟨_,za rfl⟩;have ay:o0=some (bk,a4):=aO.out.symm.trans bR;have aU:=za (show LnOk L (zy s p L) 0 o0 by rw [← aO.out];exact LnOk.start L (zy s p L));have aV:=za (show runT s t p L (12 - 0) 0 o0=vpT s t p by rw [cL.out,← aO.out]);have aW:o0.isSome=true:=by rw [ay];rfl
 have aX:=za (show TabV3 w7 S6 w5.heap.size a7 o0 from ⟨bG.out a7 (oH l.out),.inr ⟨bk,a4,R0,C0,bB,bA,ay,i,bH.ext a0⟩⟩);have df:=aY.size;have dg:=M.size;have di:=aA.size;have dj:=aL.size;have c8:=b4.lt;have c9:=b8.lt;have da:=b9.lt;have B4:=za ((b4.ext M).ext O);have B5:=za ((b5.ext M).ext O);have B6:=za ((b6.ext M).ext O);have B8:=za ((b8.ext M).ext O);have B9:=za (b9.ext O);have aH:=za a3;have dy:w.heap.size<=w5.heap.size:=(aP.trans (M.trans O)).size;have aC:=za (aP.trans (M.trans O));clear k4 k5 k6 k9 af b4 b5 b6 b8 b9 a3 bH i aL bQ bS bT bR;go_wp2_with fail
 go_loopw [10,14,15,16,17,18,19,20] (fun v10 v14 _ _ _ _ _ _ wr=>∃ (r:Nat) (o:Option (List ByteArray × List ByteArray)) (S1:Nat->Prop),v10=.bool o.isSome∧v14=.int .i64 ((r:Int)+1)∧r<=12∧Hid (Kp (SafJ F) (21840+30000*r) S0 w5 wr S1)∧Hid (TabV3 wr S1 w5.heap.size a7 o)∧Hid (LnOk L (zy s p L) r o)∧Hid (runT s t p L (12 - r) r o=vpT s t p)) (fun _ v14 _ _ _ _ _ _ _=>14 - (intOf v14).toNat)
 case atStart=>exact⟨0,o0,S6,by rw [aW],rfl,dI _,bN,aX,aU,aV⟩
 case round =>
  clear bN aX aU aV aW ay aO;obtain⟨r,o,S1,rfl,rfl,hr,ao,bU,aN,bc⟩:=hrel;have U:=ao.out.blk B8.out (fun h=>by have:=u.out _ h;omega);cases o with
  |none =>
   have hv:=za (show vpT s t p=⟨2,noA,⟨#[]⟩,r⟩ by
    rw [← bc.out];cases h12:12 - r with
    |zero=>rfl
    |succ f=>rfl)
   have k8:=U.1.cell;have f8:=U.1.frozen;go_wp2_with fail
   have cM:Ext w wr:=aC.out.frm ao.out.frm (fun q hq hs=>by have:=u.out q hs;omega);have T:=vd_fin cM U.1 oM (.int .i64 2) (.int .i64 0) (.slice none 0 0) (.slice none 0 0) (.string ⟨#[]⟩) (.int .i64 r);have cf:=T.1.cell;have Hx:=za T.2.2;clear T k8 f8 U;generalize ((((((wr.setCell ⟨w.heap.size+1+1+1,0,none⟩ (2:Int)).setCell ⟨w.heap.size+1+1+1,1,none⟩ (0:Int)).setCell ⟨w.heap.size+1+1+1,2,none⟩ ()).setCell ⟨w.heap.size+1+1+1,3,none⟩ ()).setCell ⟨w.heap.size+1+1+1,4,none⟩ (.string ⟨#[]⟩)).setCell ⟨w.heap.size+1+1+1,5,none⟩ r)=X at *;exact bodyPost_ret (v:=.agg #[(2:Int),(0:Int),(),(),.string ⟨#[]⟩,r]) (by simp [results,Tryz.results91,go_sem,cf]) rfl (by
    rw [hv.out];exact⟨none,0,0,none,0,0,rfl,noA_own _ _,Hx.out⟩)
  |some tab =>
   obtain⟨rs,cs⟩:=tab;obtain⟨bL,cD⟩:=bU.out;rcases cD with ⟨h0,_⟩|⟨dD,dv,R,C1,cr,cc,h0,a9,bf⟩
   ·cases h0
   obtain⟨rfl,rfl⟩:=Prod.mk.inj (Option.some.inj h0);obtain⟨hI,aJ⟩:=aN.out.tab rs cs rfl;have db:w5.heap.size<=wr.heap.size:=ao.out.size;have a8:=za (zgO S.out ao.out.j oM bf hI aJ oM hL);have bg:=za (zdh hI aJ hL);obtain⟨a,bI⟩:∃ a,Hid (zek L (zy s p L) rs cs=a):=⟨_,za rfl⟩;rw [bI.out] at a8 bg;have k8:=U.1.cell;have f8:=U.1.frozen;have av:=ao.out.blk aH.out (ah.out _ (dG _));have af:=av.1.cell;have aF:=a9.cell;have bs:=za bf;have a2:=za a9;clear bU bf a9 h0;go_upto_region 11 with (go_at_call 81;refine a8.out.mono ?_;rintro e w8 ⟨S2,AA,aG,an,ac,ar,aj,rfl,bD,am⟩)
   have ba:=ao.out.trans am;have hg9:=za (am.out a2.out.lt bL);have c7:=za (fun (q:Nat) (hq:w8.heap.size<=q)=>zcd.fresh S.out.ok ba.j hq);have dc:=am.size;generalize U0:w8.alloc _=w9 at *;obtain⟨Q,aw⟩:=Ext.x1_ U0;have ae:=za (ba.ext S.out.ok Q);have au:=za (bD.ext Q);have aR:=za ((am.blk a2.out bL).1.ext Q);have aS:=za ((bs.out.kp am).ext Q);clear U0;have aa:=za (show Ext w w9 from ae.out.toExt aC.out (fun q hs=>by have:=u.out q hs;omega));have co:=za (zdl (c:=c) (d1:=ac) (d1':=aj) (d2:=d) (d2':=d') (HS.out _ aa.out) au.out.own_.reads (HP.out _ aa.out) (aq.out.ext aa.out));have cj:=za (fun W (hW:Ext w9 W)=>zfC (c2:=c2) (k1:=an) (d1:=ac) (k1':=ar) (d1':=aj) (cn.out _ (aa.out.trans hW)) (au.out.own_.reads.ext hW) (aq.out.ext (aa.out.trans hW)));have k4:=(ae.out.blk B4.out (fun h=>by have:=u.out _ h;omega)).1.cell;have k6:=(ae.out.blk B6.out (fun h=>by have:=u.out _ h;omega)).1.cell;have dB:=aw.cell;have br:=za (ae.out.blk B9.out (fun h=>by have:=u.out _ h;omega)).1;clear a8 bD am ba bs a2 k8 f8 U af aF av;go_upto_region 14 with (go_at_call 82;refine co.out.mono (mQ fun cQ Z=>?_))
   have de:r<12:=by have:=aN.out.more rs cs rfl;have:=hI.r12;omega
   have ai:=za (show (if (zbv s p t L a).2=0 then (⟨0,a,⟨#[]⟩,r+1⟩:Vd) else if (zbv s p t L a).2=1 then ⟨1,noA,zas [s,t] p,r+1⟩ else runT s t p L (11 - r) (r+1) (zbx L (zy s p L) rs cs (zbv s p t L a).1))=vpT s t p by
    rw [← bc.out,show 12 - r=(11 - r)+1 by omega,runT,bI.out])
   clear bc;have bi:=za (zfM vs bg.out vp);have bh:=za (zdi (ss:=[t]) (p:=a) (by unfold zA;simp [vt]) bg.out);have bK:=ae.out.blk B8.out (fun h=>by have:=u.out _ h;omega);have c0:=za (aa.out.trans Z);cases hub:zcw s a p with
   |false =>
    have k5:=((ae.out.blk B5.out (fun h=>by have:=u.out _ h;omega)).1.ext Z).cell;have bz:=(aw.ext Z).cell;go_upto_region 17 with (go_at_call 170;refine (cj.out _ Z).mono (mQ fun b0 bW=>?_))
    have I:=Z.trans bW;have dw:=(aw.ext I).cell;cases hbb:zbG [t] a with
    |false =>
     have hv:=za (show vpT s t p=⟨0,a,⟨#[]⟩,r+1⟩ by
      rw [← ai.out];have hj:zbv s p t L a=(⟨#[]⟩,0):=by unfold zbv;rw [if_neg (by simp [hub]),if_neg (by simp [hbb])]
      rw [hj,if_pos rfl])
     have E:=bK.1.ext I;have k8:=E.cell;have f8:=E.frozen;clear bz;go_wp2_with fail
     have T:=vd_fin (aa.out.trans I) E oM (.int .i64 0) (.int .i64 a.al) (.slice AA an ac) (.slice aG ar aj) (.string ⟨#[]⟩) (.int .i64 ((r:Int)+1));have cf:=T.1.cell;have Hx:=za T.2.2;have Ho:=za (((au.out.own_.ext I).keep T.2.1 (fun b hb e=>by have e':b=w.heap.size+1+1+1:=e;omega)).less (show w.heap.size<=wr.heap.size by omega));clear T k8 f8 E;generalize ((((((b0.setCell ⟨w.heap.size+1+1+1,0,none⟩ (0:Int)).setCell ⟨w.heap.size+1+1+1,1,none⟩ a.al).setCell ⟨w.heap.size+1+1+1,2,none⟩ (.slice AA an ac)).setCell ⟨w.heap.size+1+1+1,3,none⟩ (.slice aG ar aj)).setCell ⟨w.heap.size+1+1+1,4,none⟩ (.string ⟨#[]⟩)).setCell ⟨w.heap.size+1+1+1,5,none⟩ (.int .i64 ((r:Int)+1)))=X at *;exact bodyPost_ret (v:=.agg #[(0:Int),a.al,.slice AA an ac,.slice aG ar aj,.string ⟨#[]⟩,((r:Int)+1:Int)]) (by simp [results,Tryz.results91,go_sem,cf]) rfl (by
      rw [hv.out];exact⟨AA,an,ac,aG,ar,aj,sM,Ho.out,Hx.out⟩)
    |true =>
     have ak:=za (show zbv s p t L a=(zaU (zas [t] a) L,if zy s p L (zaU (zas [t] a) L)=true then -1 else 1) by unfold zbv;rw [if_neg (by simp [hub]),if_pos hbb]);have aD:=zdH bh.out.1 L;have aE:(zaU (zas [t] a) L).size<=4000:=by have:=zea (zas [t] a) L;have:=bh.out.2;simp only [fY,List.length_nil] at this;omega
     have az:=za (zdd (s:=zas [t] a) (a:=L) (w:=b0) bh.out.1 oM);have k9:=(br.out.ext I).cell;obtain⟨z,hz⟩:∃ z,Hid (zaU (zas [t] a) L=z):=⟨_,za rfl⟩;rw [hz.out] at aD aE ak az;have aI:=za aD;clear bz;go_upto_region 20 with (go_at_call 83;refine az.out.mono (mQ fun b1 ag=>?_))
     have y:=I.trans ag;have Y:=za (ae.out.ext S.out.ok y);have bJ:=za (S.out.ask _ b1 S2 z Y.out.j oM aI.out oM);have af:=(Y.out.blk aH.out (ah.out _ (dG _))).1.cell;clear k9;go_upto_region 99 with fail
     refine bJ.out.mono ?_;rintro e aQ ⟨S4,rfl,aK⟩;have J:=za (Y.out.trans aK);have aB:=za (show Ext w aQ from J.out.toExt aC.out (fun q hs=>by have:=u.out q hs;omega));have i:=aK.blk (aR.out.ext y) hg9.out;have cp:=za ((aS.out.ext y).kp aK);have cK:=aK.size;cases hsf:zy s p L z with
     |false =>
      have hv:=za (show vpT s t p=⟨1,noA,zas [s,t] p,r+1⟩ by
       rw [← ai.out,ak.out,if_neg (show ¬ zy s p L z=true by rw [hsf];decide),if_neg (show ¬ ((1:Int)=0) by decide),if_pos (show (1:Int)=1 from rfl)])
      have HP:=za (cl.out aQ aB.out);have k4:=(J.out.blk B4.out (fun h=>by have:=u.out _ h;omega)).1.cell;have k5:=(J.out.blk B5.out (fun h=>by have:=u.out _ h;omega)).1.cell;have bx:=(J.out.blk B6.out (fun h=>by have:=u.out _ h;omega)).1;have k6:∀ (v:Array Value) (q:Nat),(aQ.alloc (.cells v 38)).cell? ⟨w.heap.size+1+1,q,none⟩=_:=fun v q=>(bx.ext ((cY aQ).alloc (.cells v 38))).cell q;have cv:=(J.out.blk B8.out (fun h=>by have:=u.out _ h;omega)).1;clear af;go_upto_region 99 with fail
      refine HP.out.mono (mQ fun wF bX=>?_);have E:=cv.ext bX;have k8:=E.cell;have f8:=E.frozen;clear k4 k5 k6 bx;go_wp2_with fail
      have T:=vd_fin (aB.out.trans bX) E oM (.int .i64 1) (.int .i64 0) (.slice none 0 0) (.slice none 0 0) (.string (zas [s,t] p)) (.int .i64 ((r:Int)+1));have cf:=T.1.cell;have Hx:=za T.2.2;clear T k8 f8 E;generalize (((((wF.setCell ⟨w.heap.size+1+1+1,0,none⟩ (1:Int)).setCell ⟨w.heap.size+1+1+1,1,none⟩ (0:Int)).setCell ⟨w.heap.size+1+1+1,2,none⟩ ()).setCell ⟨w.heap.size+1+1+1,3,none⟩ ()).setCell ⟨w.heap.size+1+1+1,4,none⟩ (.string (zas [s,t] p))).setCell ⟨w.heap.size+1+1+1,5,none⟩ (.int .i64 ((r:Int)+1))=X at *;exact bodyPost_ret (v:=.agg #[(1:Int),(0:Int),(),(),.string (zas [s,t] p),((r:Int)+1:Int)]) (by simp [results,Tryz.results91,go_sem,cf]) rfl (by
       rw [hv.out];exact⟨none,0,0,none,0,0,by simp [noA],noA_own _ _,Hx.out⟩)
     |true =>
      have cO:=(J.out.blk aH.out (ah.out _ (dG _))).1.cell;have aF:=i.1.cell;have bb:=za (zgP (x:=z) S.out J.out.j oM cp.out hI aJ (by have:=y.size;have:=Q.size;omega) hL aI.out aE);clear af;go_upto_region 99 with fail
      refine bb.out.mono ?_;rintro e cR ⟨S3,ax,V⟩;have ad:=za ((J.out.trans ax).more S.out.ok (show 21840+30000*r+1692+1+27840<=21840+30000*(r+1) by omega));have ab:=za (show runT s t p L (12 - (r+1)) (r+1) (zbx L (zy s p L) rs cs z)=vpT s t p by
       rw [← ai.out,ak.out,if_pos hsf,if_neg (show ¬ ((-1:Int)=0) by decide),if_neg (show ¬ ((-1:Int)=1) by decide),show 12 - (r+1)=11 - r by omega])
      have H:=za (aN.out.ay z);have D:=ax.blk i.1 i.2;have cP:=D.1.cell;have cz:=D.1.frozen;have bO:=i.1.lt;clear aF cO;rcases V with ⟨hn,rfl⟩|⟨bl,a5,R2,C2,cy,cx,hn,rfl,bd⟩
      ·rw [hn] at H ab;go_wp2_with fail
       go_roundw
       case rel=>exact⟨r+1,none,S3,rfl,gM,oM,za ((ad.out.cell S.out.ok (oH l.out) (oH l.out) D.2 0 _).cell S.out.ok (oH l.out) (oH l.out) D.2 1 _),za ⟨D.2,.inl ⟨rfl,_,_,(D.1.ab 0 _).ab 1 _⟩⟩,H,ab⟩
       case measure=>simp [intOf];omega
      ·rw [hn] at H ab;have be:=za (zjk (base:=w5.heap.size) D.1 D.2 bd (by have:=y.size;have:=Q.size;omega) bO);go_wp2_with fail
       go_roundw
       case rel=>exact⟨r+1,some (bl,a5),S3,rfl,gM,oM,za ((ad.out.cell S.out.ok (oH l.out) (oH l.out) D.2 0 _).cell S.out.ok (oH l.out) (oH l.out) D.2 1 _),be,H,ab⟩
       case measure=>simp [intOf];omega
   |true =>
    have ak:=za (show zbv s p t L a=(zaU (zbB s a p) L,-1) by unfold zbv;rw [if_pos hub]);have aD:=zdH bi.out.1 L;have aE:(zaU (zbB s a p) L).size<=4000:=by have:=zea (zbB s a p) L;have:=bi.out.2;omega
    have az:=za (zdd (s:=zbB s a p) (a:=L) (w:=cQ) bi.out.1 oM);have k9:=(br.out.ext Z).cell;obtain⟨z,hz⟩:∃ z,Hid (zaU (zbB s a p) L=z):=⟨_,za rfl⟩;rw [hz.out] at aD aE ak az;have aI:=za aD;go_upto_region 20 with (go_at_call 83;refine az.out.mono (mQ fun b1 ag=>?_))
    have y:=Z.trans ag;have Y:=za (ae.out.ext S.out.ok y);have bb:=za (zgP (x:=z) S.out Y.out.j oM (aS.out.ext y) hI aJ (by have:=y.size;have:=Q.size;omega) hL aI.out aE);have af:=(Y.out.blk aH.out (ah.out _ (dG _))).1.cell;have ap:=za (aR.out.ext y);have aF:=ap.out.cell;go_upto_region 99 with fail
    refine bb.out.mono ?_;rintro e cR ⟨S3,ax,V⟩;have ad:=za ((Y.out.trans ax).more S.out.ok (show 21840+30000*r+1692+27840<=21840+30000*(r+1) by omega));have ab:=za (show runT s t p L (12 - (r+1)) (r+1) (zbx L (zy s p L) rs cs z)=vpT s t p by
     rw [← ai.out,ak.out,if_neg (show ¬ ((-1:Int)=0) by decide),if_neg (show ¬ ((-1:Int)=1) by decide),show 12 - (r+1)=11 - r by omega])
    have H:=za (aN.out.ay z);have i:=ax.blk ap.out hg9.out;have cP:=i.1.cell;have cz:=i.1.frozen;clear aF af k9;rcases V with ⟨hn,rfl⟩|⟨bl,a5,R2,C2,cy,cx,hn,rfl,bd⟩
    ·rw [hn] at H ab;go_wp2_with fail
     go_roundw
     case rel=>exact⟨r+1,none,S3,rfl,gM,oM,za ((ad.out.cell S.out.ok (oH l.out) (oH l.out) i.2 0 _).cell S.out.ok (oH l.out) (oH l.out) i.2 1 _),za ⟨i.2,.inl ⟨rfl,_,_,(i.1.ab 0 _).ab 1 _⟩⟩,H,ab⟩
     case measure=>simp [intOf];omega
    ·rw [hn] at H ab;have be:=za (zjk (base:=w5.heap.size) i.1 i.2 bd (by have:=y.size;have:=Q.size;omega) (oH ap.out.lt));go_wp2_with fail
     go_roundw
     case rel=>exact⟨r+1,some (bl,a5),S3,rfl,gM,oM,za ((ad.out.cell S.out.ok (oH l.out) (oH l.out) i.2 0 _).cell S.out.ok (oH l.out) (oH l.out) i.2 1 _),be,H,ab⟩
     case measure=>simp [intOf];omega
end
theorem vpT_cert (s t:Sys) (p:Aut):((vpT s t p).code=0->zI true (vpT s t p).asm (vpT s t p).tr=true)∧((vpT s t p).code=1->zI false (vpT s t p).asm (vpT s t p).tr=true):=by
 rcases zbt s t p with h|⟨L,h⟩
 ·rw [zeT h];exact⟨(fun h=>by cases h),(fun h=>by cases h)⟩
 ·have a:=vpT_ok h;obtain⟨b,c,d⟩:=zbm (s:=s) (p:=p) (t:=t) oM;refine⟨fun h0=>?_,fun h1=>?_⟩
  ·rw [a.quiet oM];unfold zI;rw [if_pos rfl,(a.holds h0).1];rw [ByteArray.toList,ByteArray.toList.loop,if_neg dM];rfl
  ·rw [a.none_ oM];unfold zI;rw [if_neg dM,vpT_word b d c];rfl
section
variable {w:World} {lo hi n c lo1 hi1 m d m' d' lo2 hi2 k c2:Nat} {A B B' C:Option Addr} {s t:Sys} {p:Aut}
theorem impl_TaskOf0 (hs:zP w lo hi A n s)(hp:zH w lo1 hi1 B m B' m' p)(ht:zP w lo2 hi2 C k t)(hif:iface s p t = -1) :
  Calls Tryz.prog 169 #[.agg #[s.al,s.st,.slice A n c],.agg #[p.al,.slice B m d,.slice B' m' d'],.agg #[t.al,t.st,.slice C k c2]] w
   fun e w'=>e=.returned (.tuple #[.agg #[(0:Int),(0:Int),(),(0:Int),(),(),(0:Int)],.bool false])∧Ext w w':=by
 have b:=za (fun W (hW:Ext w W)=>zcT (c:=c) (d1:=d) (d1':=d') (c2:=c2) (hs.ext hW) (hp.ext hW) (ht.ext hW));rw [hif] at b;clear hs hp ht hif;obtain⟨j,U0⟩:∃ x,Hid ((((w.alloc (.cells #[s.al,s.st,.slice A n c] 38)).alloc (.cells #[p.al,.slice B m d,.slice B' m' d'] 31)).alloc (.cells #[t.al,t.st,.slice C k c2] 38)).alloc (.cells #[(0:Int),(0:Int),(),(0:Int),(),(),(0:Int)] 96)=x):=⟨_,za rfl⟩;have f:Ext w j:=(((((cY _).alloc _).alloc _).alloc _).alloc _).trans (eZ U0.out);obtain⟨l,o,q⟩:=zL (((cY _).alloc _).trans (eZ U0.out));have i:=dZ U0.out;simp only [World.size_alloc] at i
 go_enter Tryz.func169,Tryz.ntmps169
 go_upto_region 1 with fail
 rw [U0.out] at *;have D:=l.cells;have z:=o.cells;have E:=q.cells;have y:=cY j;go_upto_region 99 with fail
 refine (b.out _ f).mono (mQ fun g a=>?_);have bz:=i.ext a;have G:=bz.cell;have F:=bz.frozen;have h:=f.trans a;have u:Frm (fun k=>k=w.heap.size+1+1+1) g (((((((g.setCell ⟨w.heap.size+1+1+1,0,none⟩ (0:Int)).setCell ⟨w.heap.size+1+1+1,1,none⟩ (0:Int)).setCell ⟨w.heap.size+1+1+1,2,none⟩ ()).setCell ⟨w.heap.size+1+1+1,3,none⟩ (0:Int)).setCell ⟨w.heap.size+1+1+1,4,none⟩ ()).setCell ⟨w.heap.size+1+1+1,5,none⟩ ()).setCell ⟨w.heap.size+1+1+1,6,none⟩ (0:Int)):=
  ((((((dH g _ 0 _).trans (dH _ _ 1 _)).trans (dH _ _ 2 _)).trans (dH _ _ 3 _)).trans (dH _ _ 4 _)).trans (dH _ _ 5 _)).trans (dH _ _ 6 _)
 have r:Blk (((((((g.setCell ⟨w.heap.size+1+1+1,0,none⟩ (0:Int)).setCell ⟨w.heap.size+1+1+1,1,none⟩ (0:Int)).setCell ⟨w.heap.size+1+1+1,2,none⟩ ()).setCell ⟨w.heap.size+1+1+1,3,none⟩ (0:Int)).setCell ⟨w.heap.size+1+1+1,4,none⟩ ()).setCell ⟨w.heap.size+1+1+1,5,none⟩ ()).setCell ⟨w.heap.size+1+1+1,6,none⟩ (0:Int)) (w.heap.size+1+1+1) 96 #[.int .i64 0,.int .i64 0,.slice none 0 0,.int .i64 0,.slice none 0 0,.slice none 0 0,.int .i64 0]:=by
  simpa using ((((((bz.ab 0 (.int .i64 0)).ab 1 (.int .i64 0)).ab 2 (.slice none 0 0)).ab 3 (.int .i64 0)).ab 4 (.slice none 0 0)).ab 5 (.slice none 0 0)).ab 6 (.int .i64 0)
 have hret:=za (h.frm u (fun k hk e=>oM));go_wp2_with fail
 generalize (((((((g.setCell ⟨w.heap.size+1+1+1,0,none⟩ (0:Int)).setCell ⟨w.heap.size+1+1+1,1,none⟩ (0:Int)).setCell ⟨w.heap.size+1+1+1,2,none⟩ ()).setCell ⟨w.heap.size+1+1+1,3,none⟩ (0:Int)).setCell ⟨w.heap.size+1+1+1,4,none⟩ ()).setCell ⟨w.heap.size+1+1+1,5,none⟩ ()).setCell ⟨w.heap.size+1+1+1,6,none⟩ (0:Int))=W at *;have cf:=r.cell;exact bodyPost_ret (v:=.tuple #[.agg #[(0:Int),(0:Int),(),(0:Int),(),(),(0:Int)],.bool false]) (by simp [results,Tryz.results169,go_sem,cf]) rfl ⟨rfl,hret.out⟩
theorem zhh (hs:zP w lo hi A n s)(hp:zH w lo1 hi1 B m B' m' p)(ht:zP w lo2 hi2 C k t)(hif:iface s p t = -1) :
  Calls Tryz.prog 91 #[.agg #[s.al,s.st,.slice A n c],.agg #[t.al,t.st,.slice C k c2],.agg #[p.al,.slice B m d,.slice B' m' d'],.nilFunc] w (zhb w ⟨3,noA,⟨#[]⟩,0⟩):=by
 have j:=za (fun W (hW:Ext w W)=>impl_TaskOf0 (c:=c) (d:=d) (d':=d') (c2:=c2) (hs.ext hW) (hp.ext hW) (ht.ext hW) hif);clear hs hp ht hif;obtain⟨y,U0⟩:∃ x,Hid ((((w.alloc (.cells #[s.al,s.st,.slice A n c] 38)).alloc (.cells #[t.al,t.st,.slice C k c2] 38)).alloc (.cells #[p.al,.slice B m d,.slice B' m' d'] 31)).alloc (.cells #[(0:Int),(0:Int),(),(),.string ⟨#[]⟩,(0:Int)] 67)=x):=⟨_,za rfl⟩;have f:Ext w y:=(((((cY _).alloc _).alloc _).alloc _).alloc _).trans (eZ U0.out);obtain⟨o,q,r⟩:=zL (((cY _).alloc _).trans (eZ U0.out));have i:=dZ U0.out;simp only [World.size_alloc] at i
 go_enter Tryz.func91,Tryz.ntmps91
 go_upto_region 1 with fail
 rw [U0.out] at *;have u:=o.cell;have k2:=q.cell;have k3:=r.cell;go_upto_region 99 with fail
 refine (j.out _ f).mono (mQ fun z h=>?_);have g:=h.alloc (.cells #[(0:Int),(0:Int),(),(0:Int),(),(),(0:Int)] 96);have a:=i.ext g;have E:=a.cell;have D:=a.frozen;clear u k2 k3;have b:=vd_fin (f.trans g) a oM (.int .i64 3) (.int .i64 0) (.slice none 0 0) (.slice none 0 0) (.string ⟨#[]⟩) (.int .i64 0);have cf:=b.1.cell;have l:=za b.2.2;clear b a;go_wp2_with fail
 generalize ((((((z.alloc (.cells #[(0:Int),(0:Int),(),(0:Int),(),(),(0:Int)] 96)).setCell ⟨w.heap.size+1+1+1,0,none⟩ (3:Int)).setCell ⟨w.heap.size+1+1+1,1,none⟩ (0:Int)).setCell ⟨w.heap.size+1+1+1,2,none⟩ ()).setCell ⟨w.heap.size+1+1+1,3,none⟩ ()).setCell ⟨w.heap.size+1+1+1,4,none⟩ (.string ⟨#[]⟩)).setCell ⟨w.heap.size+1+1+1,5,none⟩ (0:Int)=X at *;exact bodyPost_ret (v:=.agg #[(3:Int),(0:Int),(),(),.string ⟨#[]⟩,(0:Int)]) (by simp [results,Tryz.results91,go_sem,cf]) rfl ⟨none,0,0,none,0,0,rfl,noA_own _ _,l.out⟩
theorem zdz {v:Vd} (HR:Hid (∀ W,Ext w W->Calls Tryz.prog 91 #[.agg #[s.al,s.st,.slice A n c],.agg #[t.al,t.st,.slice C k c2],.agg #[p.al,.slice B m d,.slice B' m' d'],.nilFunc] W (zhb W v))) :
  Calls Tryz.prog 39 #[.agg #[s.al,s.st,.slice A n c],.agg #[t.al,t.st,.slice C k c2],.agg #[p.al,.slice B m d,.slice B' m' d']] w (zhb w v):=by
 obtain⟨r,U0⟩:∃ x,Hid ((((w.alloc (.cells #[s.al,s.st,.slice A n c] 38)).alloc (.cells #[t.al,t.st,.slice C k c2] 38)).alloc (.cells #[p.al,.slice B m d,.slice B' m' d'] 31)).alloc (.cells #[(0:Int),(0:Int),(),(),.string ⟨#[]⟩,(0:Int)] 67)=x):=⟨_,za rfl⟩;have f:Ext w r:=(((((cY _).alloc _).alloc _).alloc _).alloc _).trans (eZ U0.out);obtain⟨y,z,D⟩:=zL (((cY _).alloc _).trans (eZ U0.out));have o:=dZ U0.out;simp only [World.size_alloc] at o
 go_enter Tryz.func39,Tryz.ntmps39
 go_wp2_with fail
 rw [U0.out] at *;refine (HR.out r f).mono ?_;rintro e G ⟨h,l,j,A2,n2,k2,rfl,q,g⟩;have a:=o.ext g;have F:=a.cell;have E:=a.frozen;have b:=vd_fin (f.trans g) a oM (.int .i64 v.code) (.int .i64 v.asm.al) (.slice h l j) (.slice A2 n2 k2) (.string v.tr) (.int .i64 v.ro);have i:=za ((q.av a b.2.1 dM).less f.size);have cf:=b.1.cell;have u:=za b.2.2;clear b a q;go_wp2_with fail
 exact bodyPost_ret (v:=.agg #[v.code,v.asm.al,.slice h l j,.slice A2 n2 k2,v.tr,v.ro]) (by simp [results,Tryz.results39,go_sem,cf]) rfl ⟨h,l,j,A2,n2,k2,rfl,i.out,u.out⟩
theorem zhQ (hs:zP w lo hi A n s)(hp:zH w lo1 hi1 B m B' m' p)(ht:zP w lo2 hi2 C k t)(hT:Tab w) :
  Calls Tryz.prog 39 #[.agg #[s.al,s.st,.slice A n c],.agg #[t.al,t.st,.slice C k c2],.agg #[p.al,.slice B m d,.slice B' m' d']] w (zhb w (vpT s t p)):=by
 rcases zbt s t p with h|⟨L,h⟩
 ·rw [zeT h];exact zdz (za (fun W hW=>zhh (hs.ext hW) (hp.ext hW) (ht.ext hW) h))
 ·have a:=(zbm (show 0<=iface s p t by omega)).1;exact zdz (za (fun W hW=>zhR (hs.ext hW) (hp.ext hW) (ht.ext hW) h (by have:=hs.1;have:=valid_len a;omega) (hT.ext hW)))
theorem yD15a3 {P:Prop}(h:P:=by
 simpa using ((((b62.ab 0 (.bool (hdX v.code v.asm v.tr))).ab 1 (.int .i64 (zht v.code v.asm v.tr).al)).ab 2 (.slice A2 n2 k2)).ab 3 (.slice A3 n3 k3)).ab 4 (.string (zhF v.code v.asm v.tr))
 ):P:=h
theorem zfl {v:Vd} (HR:Hid (∀ W,Ext w W->Calls Tryz.prog 44 #[.agg #[s.al,s.st,.slice A n c],.agg #[t.al,t.st,.slice C k c2],.agg #[p.al,.slice B m d,.slice B' m' d']] W (zhb W v)))(hsz:Hid (v.asm.size<=1048576∧v.tr.size<=9223372036854775807))(hcv:Hid ((v.code=0->zI true v.asm v.tr=true)∧(v.code=1->zI false v.asm v.tr=true))) :
  Calls Tryz.prog 17 #[.agg #[s.al,s.st,.slice A n c],.agg #[t.al,t.st,.slice C k c2],.agg #[p.al,.slice B m d,.slice B' m' d']] w
   (zcz w (hdX v.code v.asm v.tr) (zht v.code v.asm v.tr) (zhF v.code v.asm v.tr) (okC v.code v.asm v.tr)):=by
 have f:Ext w ((((w.alloc (.cells #[s.al,s.st,.slice A n c] 38)).alloc (.cells #[t.al,t.st,.slice C k c2] 38)).alloc (.cells #[p.al,.slice B m d,.slice B' m' d'] 31)).alloc (.cells #[.bool false,(0:Int),(),(),.string ⟨#[]⟩] 33)):=((((cY _).alloc _).alloc _).alloc _).alloc _;obtain⟨D,E,F⟩:=zL ((cY _).alloc _:Ext (((w.alloc (.cells #[s.al,s.st,.slice A n c] 38)).alloc (.cells #[t.al,t.st,.slice C k c2] 38)).alloc (.cells #[p.al,.slice B m d,.slice B' m' d'] 31)) ((((w.alloc (.cells #[s.al,s.st,.slice A n c] 38)).alloc (.cells #[t.al,t.st,.slice C k c2] 38)).alloc (.cells #[p.al,.slice B m d,.slice B' m' d'] 31)).alloc (.cells #[.bool false,(0:Int),(),(),.string ⟨#[]⟩] 33)));have h:=dX (((w.alloc (.cells #[s.al,s.st,.slice A n c] 38)).alloc (.cells #[t.al,t.st,.slice C k c2] 38)).alloc (.cells #[p.al,.slice B m d,.slice B' m' d'] 31)) 33 #[.bool false,(0:Int),(),(),.string ⟨#[]⟩];simp only [World.size_alloc] at h
 go_enter Tryz.func17,Tryz.ntmps17
 go_upto_region 1 with fail
 generalize ((((w.alloc _).alloc _).alloc _).alloc _)=x at *;have G:=D.cell;have l:=E.cell;have H:=F.cell;have O:=fun W (hW:Ext x W)=>(h.ext hW).cell;have I:∀ W,Ext x W->_:=fun W hW=>(h.ext hW).frozen;go_wp2_with (first
  |(go_at_call 44;refine (HR.out x f).mono ?_;rintro e S ⟨T,V,U,z,R,M,rfl,L,g⟩;clear G l H)
  |(go_at_call 58;refine (zfG L.reads hsz.out.1 hsz.out.2 hcv.out.1 hcv.out.2).mono ?_;rintro e i ⟨A2,n2,k2,A3,n3,k3,rfl,o,r⟩;have a:=g.trans r;have b62:=h.ext a;have Q:=b62.cell;have J:=b62.frozen;clear O I))
 have y:Frm (fun b=>b=w.heap.size+1+1+1) i (((((i.setCell ⟨w.heap.size+1+1+1,0,none⟩ (.bool (hdX v.code v.asm v.tr))).setCell ⟨w.heap.size+1+1+1,1,none⟩ (.int .i64 (zht v.code v.asm v.tr).al)).setCell ⟨w.heap.size+1+1+1,2,none⟩ (.slice A2 n2 k2)).setCell ⟨w.heap.size+1+1+1,3,none⟩ (.slice A3 n3 k3)).setCell ⟨w.heap.size+1+1+1,4,none⟩ (.string (zhF v.code v.asm v.tr))):=((((dH i _ 0 _).trans (dH _ _ 1 _)).trans (dH _ _ 2 _)).trans (dH _ _ 3 _)).trans (dH _ _ 4 _);have j:Blk (((((i.setCell ⟨w.heap.size+1+1+1,0,none⟩ (.bool (hdX v.code v.asm v.tr))).setCell ⟨w.heap.size+1+1+1,1,none⟩ (.int .i64 (zht v.code v.asm v.tr).al)).setCell ⟨w.heap.size+1+1+1,2,none⟩ (.slice A2 n2 k2)).setCell ⟨w.heap.size+1+1+1,3,none⟩ (.slice A3 n3 k3)).setCell ⟨w.heap.size+1+1+1,4,none⟩ (.string (zhF v.code v.asm v.tr))) (w.heap.size+1+1+1) 33 #[.bool (hdX v.code v.asm v.tr),.int .i64 (zht v.code v.asm v.tr).al,.slice A2 n2 k2,.slice A3 n3 k3,.string (zhF v.code v.asm v.tr)]:=by
  exact yD15a3
 have q:=(o.av b62 y dM).less (show w.heap.size<=S.heap.size by have:=f.size;have:=g.size;omega);have u:=(f.trans a).frm y (fun k hk e=>oM);have cf:=j.cell;exact bodyPost_ret (v:=.tuple #[.agg #[.bool (hdX v.code v.asm v.tr),.int .i64 (zht v.code v.asm v.tr).al,.slice A2 n2 k2,.slice A3 n3 k3,.string (zhF v.code v.asm v.tr)],.bool (okC v.code v.asm v.tr)]) (by simp [results,Tryz.results17,go_sem,cf]) rfl ⟨A2,n2,k2,A3,n3,k3,rfl,q,u⟩
theorem zfg {v:Vd} (HR:Hid (∀ W,Ext w W->Calls Tryz.prog 39 #[.agg #[s.al,s.st,.slice A n c],.agg #[t.al,t.st,.slice C k c2],.agg #[p.al,.slice B m d,.slice B' m' d']] W (zhb W v)))(hsz:Hid (v.asm.size<=1048576∧v.tr.size<=9223372036854775807))(hcv:Hid ((v.code=0->zI true v.asm v.tr=true)∧(v.code=1->zI false v.asm v.tr=true))) :
  Calls Tryz.prog 20 #[.agg #[s.al,s.st,.slice A n c],.agg #[t.al,t.st,.slice C k c2],.agg #[p.al,.slice B m d,.slice B' m' d']] w
   (zcz w (hdX v.code v.asm v.tr) (zht v.code v.asm v.tr) (zhF v.code v.asm v.tr) (okC v.code v.asm v.tr)):=by
 have f:Ext w ((((w.alloc (.cells #[s.al,s.st,.slice A n c] 38)).alloc (.cells #[t.al,t.st,.slice C k c2] 38)).alloc (.cells #[p.al,.slice B m d,.slice B' m' d'] 31)).alloc (.cells #[.bool false,(0:Int),(),(),.string ⟨#[]⟩] 33)):=((((cY _).alloc _).alloc _).alloc _).alloc _;obtain⟨D,E,F⟩:=zL ((cY _).alloc _:Ext (((w.alloc (.cells #[s.al,s.st,.slice A n c] 38)).alloc (.cells #[t.al,t.st,.slice C k c2] 38)).alloc (.cells #[p.al,.slice B m d,.slice B' m' d'] 31)) ((((w.alloc (.cells #[s.al,s.st,.slice A n c] 38)).alloc (.cells #[t.al,t.st,.slice C k c2] 38)).alloc (.cells #[p.al,.slice B m d,.slice B' m' d'] 31)).alloc (.cells #[.bool false,(0:Int),(),(),.string ⟨#[]⟩] 33)));have h:=dX (((w.alloc (.cells #[s.al,s.st,.slice A n c] 38)).alloc (.cells #[t.al,t.st,.slice C k c2] 38)).alloc (.cells #[p.al,.slice B m d,.slice B' m' d'] 31)) 33 #[.bool false,(0:Int),(),(),.string ⟨#[]⟩];simp only [World.size_alloc] at h
 go_enter Tryz.func20,Tryz.ntmps20
 go_upto_region 1 with fail
 generalize ((((w.alloc _).alloc _).alloc _).alloc _)=x at *;have G:=D.cell;have l:=E.cell;have H:=F.cell;have O:=fun W (hW:Ext x W)=>(h.ext hW).cell;have I:∀ W,Ext x W->_:=fun W hW=>(h.ext hW).frozen;go_wp2_with (first
  |(go_at_call 39;refine (HR.out x f).mono ?_;rintro e S ⟨T,V,U,z,R,M,rfl,L,g⟩;clear G l H)
  |(go_at_call 47;refine (zfA L.reads hsz.out.1 hsz.out.2 hcv.out.1 hcv.out.2).mono ?_;rintro e i ⟨A2,n2,k2,A3,n3,k3,rfl,o,r⟩;have a:=g.trans r;have b62:=h.ext a;have Q:=b62.cell;have J:=b62.frozen;clear O I))
 have y:Frm (fun b=>b=w.heap.size+1+1+1) i (((((i.setCell ⟨w.heap.size+1+1+1,0,none⟩ (.bool (hdX v.code v.asm v.tr))).setCell ⟨w.heap.size+1+1+1,1,none⟩ (.int .i64 (zht v.code v.asm v.tr).al)).setCell ⟨w.heap.size+1+1+1,2,none⟩ (.slice A2 n2 k2)).setCell ⟨w.heap.size+1+1+1,3,none⟩ (.slice A3 n3 k3)).setCell ⟨w.heap.size+1+1+1,4,none⟩ (.string (zhF v.code v.asm v.tr))):=((((dH i _ 0 _).trans (dH _ _ 1 _)).trans (dH _ _ 2 _)).trans (dH _ _ 3 _)).trans (dH _ _ 4 _);have j:Blk (((((i.setCell ⟨w.heap.size+1+1+1,0,none⟩ (.bool (hdX v.code v.asm v.tr))).setCell ⟨w.heap.size+1+1+1,1,none⟩ (.int .i64 (zht v.code v.asm v.tr).al)).setCell ⟨w.heap.size+1+1+1,2,none⟩ (.slice A2 n2 k2)).setCell ⟨w.heap.size+1+1+1,3,none⟩ (.slice A3 n3 k3)).setCell ⟨w.heap.size+1+1+1,4,none⟩ (.string (zhF v.code v.asm v.tr))) (w.heap.size+1+1+1) 33 #[.bool (hdX v.code v.asm v.tr),.int .i64 (zht v.code v.asm v.tr).al,.slice A2 n2 k2,.slice A3 n3 k3,.string (zhF v.code v.asm v.tr)]:=by
  exact yD15a3
 have q:=(o.av b62 y dM).less (show w.heap.size<=S.heap.size by have:=f.size;have:=g.size;omega);have u:=(f.trans a).frm y (fun k hk e=>oM);have cf:=j.cell;exact bodyPost_ret (v:=.tuple #[.agg #[.bool (hdX v.code v.asm v.tr),.int .i64 (zht v.code v.asm v.tr).al,.slice A2 n2 k2,.slice A3 n3 k3,.string (zhF v.code v.asm v.tr)],.bool (okC v.code v.asm v.tr)]) (by simp [results,Tryz.results20,go_sem,cf]) rfl ⟨A2,n2,k2,A3,n3,k3,rfl,q,u⟩
theorem impl_CertifyPair (hs:zP w lo hi A n s)(hp:zH w lo1 hi1 B m B' m' p)(ht:zP w lo2 hi2 C k t)(hT:Tab w) :
  Calls Tryz.prog 20 #[.agg #[s.al,s.st,.slice A n c],.agg #[t.al,t.st,.slice C k c2],.agg #[p.al,.slice B m d,.slice B' m' d']] w (zcz w (hdX (vpT s t p).code (vpT s t p).asm (vpT s t p).tr) (zht (vpT s t p).code (vpT s t p).asm (vpT s t p).tr) (zhF (vpT s t p).code (vpT s t p).asm (vpT s t p).tr) (okC (vpT s t p).code (vpT s t p).asm (vpT s t p).tr)):=
 zfg (za (fun W (hW:Ext w W)=>zhQ (hs.ext hW) (hp.ext hW) (ht.ext hW) (hT.ext hW))) (za ⟨(zhH s t p).1,dO (zhH s t p).2 oM⟩) (za (vpT_cert s t p))
theorem zhn (hs:zP w lo hi A n s)(hp:zH w lo1 hi1 B m B' m' p)(ht:zP w lo2 hi2 C k t)(hhi:hi<=w.heap.size) :
  Calls Tryz.prog 44 #[.agg #[s.al,s.st,.slice A n c],.agg #[t.al,t.st,.slice C k c2],.agg #[p.al,.slice B m d,.slice B' m' d']] w (zhb w (vpT s t p)):=by
 rcases zbt s t p with h|⟨L,h⟩
 ·rw [zeT h];exact zcu (za (fun W (hW:Ext w W)=>zgS (K:=12) (hs.ext hW) (hp.ext hW) (ht.ext hW) h))
 ·rw [zgJ h];have a:=(zbm (show 0<=iface s p t by omega)).1;exact zeO hs hp ht h (by have:=hs.1;have:=valid_len a;omega) hhi
theorem spec_CertifyPairB (hs:zP w lo hi A n s)(hp:zH w lo1 hi1 B m B' m' p)(ht:zP w lo2 hi2 C k t)(hhi:hi<=w.heap.size) :
  Calls Tryz.prog 17 #[.agg #[s.al,s.st,.slice A n c],.agg #[t.al,t.st,.slice C k c2],.agg #[p.al,.slice B m d,.slice B' m' d']] w (zcz w (hdX (vpT s t p).code (vpT s t p).asm (vpT s t p).tr) (zht (vpT s t p).code (vpT s t p).asm (vpT s t p).tr) (zhF (vpT s t p).code (vpT s t p).asm (vpT s t p).tr) (okC (vpT s t p).code (vpT s t p).asm (vpT s t p).tr)):=
 zfl (za (fun W (hW:Ext w W)=>zhn (hs.ext hW) (hp.ext hW) (ht.ext hW) (dO hhi hW.size))) (za ⟨(zhH s t p).1,dO (zhH s t p).2 oM⟩) (za (vpT_cert s t p))
end
def shA (al p k:Nat) (a:Aut):Prop:=a.al=al∧a.next.length=p∧a.acc.length=p∧∀ l∈a.next,l.length=k
theorem zgq (h:Rd w R M)(hM:M<=900000000)(ha:a<64)(hp:p<=16) :
  Calls Tryz.prog 259 #[.pointer (some R),a,p] w (zha R (M+400) (shA a p (letters a 6).length) w):=by
 have am:Sm a:=tM;have hRl:=h.lt
 go_enter Tryz.func259,Tryz.ntmps259
 have hxz:=(cY w).alloc (.cells #[(0:Int),(),()] 31);have bz:=dX w 31 #[(0:Int),(),()];have S:=(cY (w.alloc (.cells #[(0:Int),(),()] 31))).alloc (.cells #[a,(),()] 31);have bG:=dX (w.alloc (.cells #[(0:Int),(),()] 31)) 31 #[a,(),()];have ao:=bz.lt;have an:(w.alloc (.cells #[(0:Int),(),()] 31)).heap.size=w.heap.size+1:=sM;rw [an] at bG;go_upto_region 2 with fail
 generalize (w.alloc _).alloc _=w2 at *;generalize w.alloc _=T at *;go_wp2_with fail
 refine (zaj a am _).mono ?_;rintro e w3 ⟨B,d,rfl,-,G⟩;have c:zbS T w3 R (w.heap.size+1) M a (.slice none 0 0) [] [] (.slice none 0 0) []:=⟨bG.ext G,World.ownsRow_nil _ _ _ _,zD.nil _ _,World.ownsRow_nil _ _ _ _,h.ext ((hxz.trans S).trans G),(S.trans G).dr,oM,oM⟩;have aA:=zE a 6;clear bG G S;generalize (letters a 6).length=k at *;go_wp2_with fail
 go_loopw [9] (fun iv wr=>∃ (i:Nat) (v:Value) (g:List Value) (H:List (List Int)) (vA:Value) (r:List Bool),i<=p∧iv=.int .i64 (i:Nat)∧zbS T wr R (w.heap.size+1) (M+i*20) a v g H vA r∧H.length=i∧r.length=i∧Hid (∀ l∈H,l.length=k)) (fun iv _=>p - (intOf iv).toNat)
 case atStart=>exact⟨0,_,[],[],_,[],dI _,rfl,c,rfl,rfl,za (fun l hl=>by simp at hl)⟩
 case round =>
  clear c;obtain⟨i,v,g,H,vA,r,hi,rfl,c,u,F,U⟩:=hrel
  by_cases hip:i<p
  ·have C:=za c.low;have hK:=za (show T.heap.size<=wr.heap.size from c.dr.size);have h0:=World.ownsRow_made (base:=wr.heap.size) (e:=3) (size:=1) wr #[] 0 (dG _) (dI _) rfl;have Q:=(cY wr).alloc (.cells #[] 3);have m:=c.ext Q;go_upto_region 7 with fail
   clear c;obtain⟨I,aa⟩:∃ I,I=wr:=⟨_,rfl⟩;rw [← aa] at h0 C hK m Q ⊢;clear aa;generalize I.alloc _=w4 at *;go_wp2_with fail
   go_loopw [10,11] (fun rv jv wr=>∃ (j:Nat) (l:List Int),j<=k∧jv=.int .i64 (j:Nat)∧zbS T wr R (w.heap.size+1) (M+i*20+j) a v g H vA r∧l.length=j∧wr.ownsRow I.heap.size 3 1 rv j (ints l)∧Hid (I.heap.size<=wr.heap.size)) (fun _ jv _=>k - (intOf jv).toNat)
   case atStart=>exact⟨0,[],dI _,rfl,m,rfl,h0,za Q.size⟩
   case round =>
    clear m h0;obtain⟨j,l,hj,rfl,c,t,f,al⟩:=hrel
    by_cases hjk:j<k
    ·obtain⟨AR,cR,rfl⟩:=zi f;go_wp2_with fail
     refine (zC c.rd oM).mono ?_;rintro e w5 ⟨y,rfl,-,-,aj,L⟩;have J:=c.drawn L aj;have E:=zbI f L (fun b h1 e=>by have:=c.dr.size;have:=c.hR;have:=hK.out;omega);have Z:I.heap.size<=w5.heap.size:=dO al.out L.size;have O:=za t;clear t c f;go_wp2_with (at_builtin;refine zaa I w5 rfl _ _ _ rfl 3 _ 1 8 Tryz.underlying128 zaf rfl dM (.slice AR j cR) j (ints l) _ _ rfl rfl Z E rfl (by simp [Value.oneCell']) lM oM ?_;intro g5 cap5 w6 hown6 hg6 hat6 hlt6)
     go_roundw
     case rel=>exact⟨j+1,l++[(y:Int)],oM,gM,(J.side C.out hK.out E hg6).more oM,by simp [O.out],by simpa [ints] using hown6,za (dO Z hg6.size)⟩
     case measure=>simp [intOf];omega
    ·obtain rfl:j=k:=oM;obtain⟨AR,cR,rfl⟩:=zi f;have cG:=c.blk.cell;have ak:=c.dr.size;have D:wr.ownsRow I.heap.size 3 1 (.slice AR j cR) l.length (ints l):=by rw [t];exact f
     go_upto_region 12 with (at_builtin;refine zaa T wr rfl _ _ _ rfl 128 _ 1 24 Tryz.underlying25 zcr rfl dM v H.length g _ _ rfl rfl ak c.nx rfl (zaZ _ _ _) lM oM ?_;intro g5 cap5 w6 hown6 hg6 hat6 hlt6;obtain⟨q1,q2,q3⟩:=c.aw C.out hK.out D hown6 hg6 hat6;have ap:=q1.out)
     rw [u] at q3;clear q1 ap q2 hown6 hg6 hat6 hlt6 f D cG c;have V:=za (show ∀ l'∈H++[l],l'.length=j from fun l' O=>by
      rcases List.mem_append.1 O with h1|h1
      ·exact U.out l' h1
      ·rw [List.mem_singleton.1 h1];exact t)
     have Y:(H++[l]).length=i+1:=by simp [u]
     clear t u;generalize H++[l]=aB at *;generalize g++[.slice AR j cR]=aq at *;generalize w6.setCell ⟨w.heap.size+1,1,none⟩ (.slice (some g5) (i+1) cap5)=w7 at *;generalize Value.slice (some g5) (i+1) cap5=v7 at *;have cG:∀ W,Dr R w7 W->∀ q,W.cell? ⟨w.heap.size+1,q,none⟩=#[Value.int .i64 a,v7,vA][q]?:=fun W hW=>(q3.blk.dr hW oM).cell;refine tR (fun X=>Dr R w7 X) [6,8] (Ord.of [0,1,2,3,4,5,6,7,8]) ?_;refine tQ ?_;refine zB fun K hK=>?_;go_simp;refine (zC (n:=3) (q3.rd.ext ((cY _).drew)) oM).mono ?_;rintro e w8 ⟨z,rfl,-,-,hr8,hd8⟩;have s:Dr R w7 w8:=((Dr.refl R w7).drew).trans hd8;have o:=q3.drawn s hr8;refine hK.out _ _ s ?_;refine pT ?_;refine tQ ?_;refine zB fun K hK=>?_;go_simp;refine hK.out _ _ (s.alloc _) ?_;refine pT ?_;refine zU fun K hK=>?_
     trace_state
     refine zaI T w8 _ _ _ rfl 4 _ 1 1 Tryz.underlying26 zbh rfl dM vA r.length (zag r) _ _ rfl rfl o.dr.size o.acc rfl (by simp [Value.oneCell']) lM oM ?_;intro g9 cap9 w9 hown9 hg9 hat9 hlt9;refine hK.out _ _ ?_;refine pT ?_;refine tQ ?_;obtain⟨p1,p2,p3⟩:=o.aq (x:=decide (0<z)) (W':=w9) hown9 hg9 hat9;have aD:=p1.out;rw [F] at p3;refine zU fun K hK=>?_;go_simp;refine hK.out _ _ ?_;refine zaq ?_;go_wp2_with fail
     go_roundw
     case rel=>exact⟨i+1,_,_,_,_,_,oM,gM,p3.more oM,Y,by simp [F],V⟩
     case measure=>simp [intOf];omega
  ·obtain rfl:i=p:=oM;obtain⟨A5,c5,rfl⟩:=zi c.nx;obtain⟨B5,d5,rfl⟩:=zi c.acc;obtain⟨f1,f2⟩:=c.fin (N:=M+400) (sh:=shA a i k) hxz bz rfl hRl (dG _) ao oM ⟨rfl,u,F,U.out⟩;rw [u,F] at f1 f2;have cG:=c.blk.cell;have bz5:=bz.dr c.dr oM;have cZ:=bz5.cell;have fZ:=bz5.frozen;go_wp2_with fail
   have cf:=f2.cell;exact bodyPost_ret (v:=.agg #[a,.slice A5 i c5,.slice B5 i d5]) (by simp [results,Tryz.results259,go_sem,cf]) rfl f1.out
section
variable {w0 W W':World} {R G M N:Nat} {al:Int} {v vA:Value} {rows:List Value} {ls:List (List Int)} {acc:List Bool}
theorem zbS.of {a:Aut}(ho:zab W w0.heap.size A n c A' n' c' a)(hr:Rd W R M)(hd:Dr R w0 W)(hR:R<w0.heap.size) :
  ∃ rows,zbS w0 (W.alloc (.cells #[a.al,.slice A n c,.slice A' n' c'] 31)) R W.heap.size M a.al (.slice A n c) rows a.next (.slice A' n' c') a.acc:=by
 obtain⟨⟨rows,h1,d⟩,h3,f,g⟩:=ho;have b:=(cY W).alloc (.cells #[a.al,.slice A n c,.slice A' n' c'] 31);refine⟨rows,dX W _ _,zh h1 b,d.keep b.aj (fun _ _=>id),?_,hr.ext b,hd.ext b,hR,hd.size⟩;rw [← g];exact zh f b
theorem zbS.setAcc {x:Bool}(h:zbS w0 W R G M al v rows ls (.slice (some g) n c) acc)(hn:n=acc.length) :
  zbS w0 (W.setCell ⟨g,i,none⟩ (.bool x)) R G M al v rows ls (.slice (some g) n c) (acc.set i x):=by
 subst hn;have a:=dH W g i (.bool x);have f:=(h.acc.lt g rfl).1;have d:=h.hR;have hst:=(h.acc.stored i (.bool x)).1;rw [show (zag acc).set i (.bool x)=zag (acc.set i x) by simp [zag,List.map_set]] at hst;refine⟨h.blk.frm a (fun e=>zr h.acc h.blk dM rfl e.symm),zg h.nx a (fun b hb hS=>?_),h.rows.frm a (fun i' r b hr hb hS=>?_),by simpa using hst,h.rd.frm a (fun k hk e=>oM),h.dr.ag (p:=⟨g,i,none⟩) f _,d,h.hG⟩
 ·subst hS;exact zaD h.nx h.acc dM hb rfl
 ·subst hS;obtain⟨l,_,j⟩:=h.rows.row hr;exact zaD j h.acc dM hb rfl
theorem zbS.setRow {k:Nat}  (h:zbS w0 W R G M al v rows ls vA acc)(hr:rows[i]?=some (.slice (some g) n c))(hl:ls[i]?=some l)(hn:n=l.length) :
  zbS w0 (W.setCell ⟨g,k,none⟩ x) R G M al v rows (ls.set i (l.set k x)) vA acc:=by
 subst hn;have a:=dH W g k (.int .i64 x);have d:=h.rows.2.1 i _ l hr hl;have o:=(d.lt g rfl).1;have f:=h.hR;have hst:=(d.stored k (.int .i64 x)).1;rw [show (ints l).set k (.int .i64 x)=ints (l.set k x) by simp [ints,List.map_set]] at hst;have m:Frm (Go.Proofs.YtcfchopfijalpaaGreatDoor.blk (some ⟨g,0,none⟩)) W (W.setCell ⟨g,k,none⟩ x):=a.mono (fun b _ hb=>⟨_,rfl,hb.symm⟩);refine⟨h.blk.frm a (fun e=>zr d h.blk dM rfl e.symm),?_,?_,zg h.acc a (fun b hb hS=>?_),h.rd.frm a (fun k hk e=>oM),h.dr.ag (p:=⟨g,k,none⟩) o _,f,h.hG⟩
 ·rw [fJ];exact zg h.nx a (fun b hb hS=>by subst hS;exact zaD h.nx d dM hb rfl)
 ·have:=h.rows.ab (w':=W.setCell ⟨g,k,none⟩ x) (j:=i) (l:=l.set k x) (A:=some ⟨g,0,none⟩) (c:=c) (by simpa using hr) m (by simpa using hst);exact this
 ·subst hS;exact zaD h.acc d dM hb rfl
theorem zbS.row (h:zbS w0 W R G M al (.slice (some g) n c) rows ls vA acc)(hl:ls[i]?=some l)(hn:n=ls.length) :
  ∃ Ar cr,rows[i]?=some (.slice Ar l.length cr)∧W.cell? ⟨g,i,none⟩=some (.slice Ar l.length cr)∧W.ownsRow w0.heap.size 3 1 (.slice Ar l.length cr) l.length (ints l):=by
 subst hn;have f:i<ls.length:=(List.getElem?_eq_some_iff.1 hl).1;have b:i<rows.length:=by rw [h.rows.1];exact f
 have a:rows[i]?=some rows[i]:=dF b;have d:=h.rows.2.1 i _ l a hl;obtain⟨Ar,cr,e⟩:=zi d;rw [e] at a d;exact⟨Ar,cr,a,by rw [h.nx.cellAt i oM,a],d⟩
end
theorem zil (h:Rd w R M)(hM:M<=900000000)(ha:a<64)(hp0:1<=p)(hp:p<=16) :
  Calls Tryz.prog 258 #[.pointer (some R),a,p] w (zha R (M+400) (shA a p (letters a 6).length) w):=by
 have hRl:=h.lt
 go_enter Tryz.func258,Tryz.ntmps258
 go_wp2_with fail
 generalize U0:w.alloc _=Y at *;have hxz:=Ext.al_ U0;have bz:=dZ U0;have T:=bz.lt;clear U0;refine (zgq (h.ext hxz) hM ha hp).mono ?_;rintro e Z ⟨b,A,n,c,A',n',c',rfl,zkh,hsh,E,B⟩;obtain⟨u,d⟩:=zbS.of zkh E B oM;obtain⟨s1,J,L,X⟩:=hsh.out;have H:n=b.next.length:=zkh.2.1;have t:n'=b.acc.length:=zkh.2.2.2;obtain⟨af,y,ae⟩:=b;dsimp only at *;subst s1;rw [J] at H;rw [L] at t;replace H:=H.symm;replace t:=t.symm;subst H;subst t;have hG:=B.size;clear zkh E B hsh;have V:=za X;clear X;have am:=zE a 6;generalize (letters a 6).length=k at *;obtain⟨Q,rfl,aj,-⟩:=zT (L ▸ d.acc) hp0;obtain⟨S,rfl,ak,-⟩:=zT (J ▸ d.nx) hp0;have U:=za J;have S3:=za L;clear J L;go_upto_region 2 with fail
 generalize Z.alloc _=w3 at *;generalize Z.heap.size=G at *;go_wp2_with fail
 go_loopw [8] (fun iv wr=>∃ (i:Nat) (r:List Bool),i<=p∧iv=.int .i64 (i:Nat)∧zbS Y wr R G (M+400) a (.slice (some S) p c) u y (.slice (some Q) p c') r∧Hid (r.length=p)) (fun iv _=>p - (intOf iv).toNat)
 case atStart=>exact⟨0,_,dI _,rfl,d,S3⟩
 case round =>
  clear d;obtain⟨i,r,hi,rfl,d,hal⟩:=hrel
  by_cases hip:i<p
  ·have cG:=d.blk.cell;have I:=d.acc;rw [hal.out] at I;obtain⟨o0,c0⟩:=zaY I i oM;have f0:=I.frozenAt i;have q:=d.setAcc (i:=i) (x:=decide ((i:Int)<(p:Int) - 1)) hal.out.symm;clear I;go_wp2_with fail
   go_roundw
   case rel=>exact⟨i+1,_,oM,gM,q,za (by rw [fJ];exact hal.out)⟩
   case measure=>simp [intOf];omega
  ·clear hi;have hp1:p - 1<y.length:=oH U.out;obtain⟨l0,f⟩:∃ l,y[p - 1]?=some l:=⟨_,dF hp1⟩;have m:=za (V.out l0 (dE f));have O:=za f;have an:((p:Int) - 1).toNat=p - 1:=oM;clear f hp1;go_wp2_with fail
   go_loopw [9] (fun iv wr=>∃ (j:Nat) (F:List (List Int)) (l:List Int),j<=k∧iv=.int .i64 (j:Nat)∧zbS Y wr R G (M+400) a (.slice (some S) p c) u F (.slice (some Q) p c') r∧Hid (F.length=p)∧Hid (∀ l∈F,l.length=k)∧Hid (F[p - 1]?=some l)) (fun iv _=>k - (intOf iv).toNat)
   case atStart=>exact⟨0,_,_,dI _,rfl,d,U,V,O⟩
   case round =>
    clear d m;obtain⟨j,F,l,hj,rfl,d,s,C,f⟩:=hrel;have m:=C.out l (dE f.out);obtain⟨Ar,cr,D,z,o⟩:=d.row f.out s.out.symm;have cG:=d.blk.cell;rw [m] at D z o;have HR:=za D;clear D
    by_cases hjk:j<k
    ·obtain⟨g,rfl,-,-⟩:=zT o oM;obtain⟨o0,c0⟩:=zaY o j oM;have f0:=o.frozenAt j;have q:=d.setRow (k:=j) (x:=(p:Int) - 1) HR.out f.out m.symm;clear o;have HL:=za m;clear m;go_wp2_with fail
     go_roundw
     case rel =>
      refine⟨j+1,_,l.set j ((p:Int) - 1),oM,gM,q,za (by rw [fJ];exact s.out),za (fun l' hl'=>?_),za ?_⟩
      ·rcases List.mem_or_eq_of_mem_set hl' with h1|h1
       ·exact C.out l' h1
       ·rw [h1,fJ];exact HL.out
      ·have:=s.out;rw [eS oM]
     case measure=>simp [intOf];omega
    ·obtain⟨f1,f2⟩:=d.fin (N:=M+400) (sh:=shA a p k) hxz bz rfl hRl (dG _) T oM ⟨rfl,s.out,hal.out,C.out⟩;have bz5:=bz.dr d.dr oM;have cZ:=bz5.cell;have fZ:=bz5.frozen;clear o m;go_wp2_with fail
     have cf:=f2.cell;exact bodyPost_ret (v:=.agg #[a,.slice (some S) p c,.slice (some Q) p c']) (by simp [results,Tryz.results258,go_sem,cf]) rfl f1.out
def strOf:Value->ByteArray
 |.string s=>s
 |_=>⟨#[]⟩
def RetTexts (L:Nat) (w:World) (e:Ending) (w':World):Prop:=∃ (A:Option Addr) (n c:Nat) (l:List ByteArray),e=.returned (.slice A n c)∧0<n∧w'.ownsRow w.heap.size 9 1 (.slice A n c) n (zS l)∧(∀ x∈l,x.size<=L)∧Ext w w'
theorem zbO (w:World)  (hu:zS (us.toList.map strOf)=us.toList)(hn:us.size=n)(h:n<=1000):(w.alloc (.cells us 9)).ownsRow w.heap.size 9 1 (.slice (some w.heap.size) n n) n (zS (us.toList.map strOf)):=by
 rw [hu];exact World.ownsRow_lit w us n (dG _) lM (by simpa using hn)
theorem spec_l2Texts :Calls Tryz.prog 279 #[] w (RetTexts 100 w):=by
 go_enter Tryz.func279,Tryz.ntmps279
 go_wp2;go_ret;exact⟨_,_,_,_,rfl,dM,zbO w rfl rfl oM,by decide +kernel,(cY _).alloc _⟩
theorem reads_ints {e:TypeId} (l:List Int)(hu:us.toList=ints l)(hn:us.size=n)(hx:Ext (w.alloc (.cells us e)) w')(h63:n<=1000):Reads w' w.heap.size (w.heap.size+1) 1 (some ⟨w.heap.size,0,none⟩) n (ints l):=
 ⟨by rw [← hu];simpa using hn,oM,fun _=>⟨_,rfl,dG _,sM,fun j u hj=>by
  have:=(zcp hx).cell j
  rw [zZ,dW,this]
  rw [← hu] at hj
  simpa using hj⟩⟩
theorem zba (l:List Int) (n:Nat) (us:Array Value)(hu:us.toList=ints l)(hn:us.size=n)(h0:0<n)(h63:n<=1000)(h:Rd w R M)(hM:M<=1000000000) :
  Calls Tryz.prog 237 #[.pointer (some R),.slice (some w.heap.size) n n] (w.alloc (.cells us 3)) (RetNum R M l (w.alloc (.cells us 3))):=
 l19Rd_num (h.ext ((cY _).alloc _)) hM (reads_ints l hu hn (cY _) h63) h.lt h0
theorem zhB (hs:zbV W R A n s)(hg:Good s)(hn:n<=L∧n<=c)(hr:Rd W R M)(hd:Dr R w W)(hB:Blk W Z 38 cs)(hR:R<w.heap.size)(hZ:w.heap.size<=Z) :
  RetG R M L w (.returned (.agg #[s.al,s.st,.slice A n c])) (((W.setCell Z s.al).setCell ⟨Z,1,none⟩ s.st).setCell ⟨Z,2,none⟩ (.slice A n c)):=by
 have a:=zeW W Z (.int .i64 s.al) (.int .i64 s.st) (.slice A n c);exact⟨s,A,n,c,rfl,hs.far hB dM a,hg,hn,hr.frm a (fun k h1 h2=>oM),((hd.ag (p:=⟨Z,0,none⟩) hZ _).ag (p:=⟨Z,1,none⟩) hZ _).ag (p:=⟨Z,2,none⟩) hZ _⟩
theorem yD15a1 {P:Prop}(h:P:=by
 go_wp2_with fail
 refine (zba [3,2,4,1,5] 5 #[(3:Int),(2:Int),(4:Int),(1:Int),(5:Int)] rfl rfl oM oM hr6 oM).mono ?_;rintro e w7 ⟨st,hst,rfl,hr7,hd7⟩;have hw7:=(hw6.ext ((Ext.refl _).alloc _)).trans hd7;have bz7:=(bz6.ext ((Ext.refl _).alloc _)).dr hd7 oM;go_wp2_with fail
 refine (zba [3,2,4,6] 4 #[(3:Int),(2:Int),(4:Int),(6:Int)] rfl rfl oM oM hr7 oM).mono ?_;rintro e w8 ⟨fw,_,rfl,hr8,hd8⟩;have hw8:=(hw7.ext ((Ext.refl _).alloc _)).trans hd8;have bz8:=(bz7.ext ((Ext.refl _).alloc _)).dr hd8 oM;obtain⟨a,rfl,ha⟩:∃ a:Nat,al=a∧a<64:=⟨al.toNat,by simp at hal;omega,by simp at hal;omega⟩;obtain⟨p,rfl,hp1,hp⟩:∃ p:Nat,st=p∧1<=p∧p<=16:=⟨st.toNat,by simp at hst;omega,by simp at hst;omega,by simp at hst;omega⟩;clear hal hst;go_wp2_with fail
 refine (zev hr8 oM ha hp1 hp).mono ?_;rintro e w9 ⟨s9,A9,n9,c9,rfl,hs9,hg9,hn9,hr9,hd9⟩;have bz9:=bz8.dr hd9 oM;have hfin9:=za (zhB (R:=R) (M:=M+30000) (L:=20000) (c:=c9) hs9 hg9 hn9 (hr9.more oM) (hw8.trans hd9) bz9 hRl (Nat.le_refl _));have cz9:=bz9.cell;have fz9:=bz9.frozen;go_wp2_with fail
 exact bodyPost_ret (v:=.agg #[s9.al,s9.st,.slice A9 n9 c9]) (by simp [results,Tryz.results249,go_sem,cz9]) rfl hfin9.out
 ):P:=h
theorem zik (h:Rd w R M)(hM:M<=800000000) :
  Calls Tryz.prog 249 #[.pointer (some R)] w (RetG R (M+30000) 20000 w):=by
 have hRl:=h.lt;have u:=(cY w).alloc (.cells #[(0:Int),(0:Int),()] 38);have bz:=dX w 38 #[(0:Int),(0:Int),()]
 go_enter Tryz.func249,Tryz.ntmps249
 go_wp2_with fail
 refine (zC (h.ext u) oM).mono ?_;rintro e w1 ⟨y,rfl,_,_,q,o⟩;have r:=u.dr.trans o;have g:=bz.dr o oM;have X:=g.lt;clear bz
 by_cases hy:y=0
 ·subst hy;go_wp2_with fail
  refine (spec_l2Texts).mono ?_;rintro e w2 ⟨A,n,c,l,rfl,S,zkh,Q,j⟩;go_wp2_with fail
  refine (l19Rd_of (q.ext j) oM (Reads.af zkh) oM S).mono ?_;rintro e w3 ⟨x,T,rfl,C,p⟩;have U:=Q x T;go_wp2_with fail
  refine (zcW C oM).mono ?_;rintro e w4 ⟨s,B,m,d,Y,rfl,J,⟨I,-⟩,hm,hr4,hd4⟩;have t:Dr R w w4:=((r.ext j).trans p).trans hd4;have k:=((g.ext j).dr p oM).dr hd4 oM;have a:=(cY w4).alloc (.cells #[s.al,s.st,.slice B m d] 38);have H:=dX w4 38 #[s.al,s.st,.slice B m d];cases Y
  ·have D:=hr4.ext a;have E:=t.ext a;have bz5:=k.ext a;clear H a J I;go_wp2_with fail
   have G:=(zba [3,6,7,5,1,0,12] 7 #[(3:Int),(6:Int),(7:Int),(5:Int),(1:Int),(0:Int),(12:Int)] rfl rfl oM oM D oM);simp only [World.size_alloc] at G;refine G.mono ?_;rintro e Z ⟨al,hal,rfl,hr6,b⟩;have hw6:=(E.ext ((cY _).alloc _)).trans b;have bz6:=(bz5.ext ((cY _).alloc _)).dr b oM;exact yD15a1
  ·have i:=I rfl;have c5:=H.cell;have f:=k.ext a;have z:=f.cell;have O:=f.frozen;go_wp2_with fail
   generalize w4.alloc _=w5 at *;have F:=zhB (R:=R) (M:=M+30000) (L:=20000) (c:=d) (J.ext a) i oM ((hr4.more oM).ext a) (t.ext a) f hRl (dG _);exact bodyPost_ret (v:=.agg #[s.al,s.st,.slice B m d]) (by simp [results,Tryz.results249,go_sem,z]) rfl F
 ·have V:((y:Int)==0)=false:=(by rw [beq_eq_false_iff_ne];omega);go_wp2_with fail
  refine (zba [3,6,7,5,1,0,12] 7 #[(3:Int),(6:Int),(7:Int),(5:Int),(1:Int),(0:Int),(12:Int)] rfl rfl oM oM q oM).mono ?_;rintro e Z ⟨al,hal,rfl,hr6,b⟩;have hw6:=(r.ext ((cY _).alloc _)).trans b;have bz6:=(g.ext ((cY _).alloc _)).dr b oM;exact yD15a1
def zgZ (b:Aut):Prop:=∃ a p:Nat,a<64∧1<=p∧p<=16∧shA a p (letters a 6).length b
theorem zha.mono {sh sh':Aut->Prop}  {e:Ending}(h:zha R M sh w e w')(hd:Dr R w0 w)(hM:M<=N)(hs:∀ b,sh b->sh' b):zha R N sh' w0 e w':=by
 obtain⟨b,A,n,c,A',n',c',d,f,hsh,g,a⟩:=h;exact⟨b,A,n,c,A',n',c',d,f.less hd.size,za (hs b hsh.out),g.more hM,hd.trans a⟩
theorem zjp {sh:Aut->Prop}   {t:TypeId}(hx:Ext w w0)(ho:zab W w0.heap.size A n c A' n' c' b)(hsh:sh b)(hr:Rd W R M)(hd:Dr R w0 W) (bz:Blk w0 Z t cs)(hc:cs.size=3)(hR:R<w.heap.size)(hZ:w.heap.size<=Z)(hM:M<=N) :
  Hid (zha R N sh w (.returned (.agg #[b.al,.slice A n c,.slice A' n' c'])) (((W.setCell Z b.al).setCell ⟨Z,1,none⟩ (.slice A n c)).setCell ⟨Z,2,none⟩ (.slice A' n' c'))) ∧
  Blk (((W.setCell Z b.al).setCell ⟨Z,1,none⟩ (.slice A n c)).setCell ⟨Z,2,none⟩ (.slice A' n' c')) Z t #[.int .i64 b.al,.slice A n c,.slice A' n' c']:=by
 have d:=bz.lt;have a:=zau W Z (.int .i64 b.al) (.slice A n c) (.slice A' n' c');refine⟨za ⟨b,A,n,c,A',n',c',rfl,(ho.keep a (fun b h1 e=>oM)).less hx.size,za hsh,(hr.more hM).frm a (fun k hk e=>oM),?_⟩,zaE (bz.dr hd oM) hc _ _ _⟩;exact (((hx.dr.trans hd).ag (p:=⟨Z,0,none⟩) hZ _).ag (p:=⟨Z,1,none⟩) hZ _).ag (p:=⟨Z,2,none⟩) hZ _
theorem spec_l1Some (h:Rd w R M)(hM:M<=900000000) :
  Calls Tryz.prog 274 #[.pointer (some R)] w (fun e w'=>∃ x:Nat,x<64∧e=.returned (.int .i64 x)∧Rd w' R (M+1)∧Dr R w w'):=by
 go_enter Tryz.func274,Tryz.ntmps274
 go_wp2_with fail
 refine (zba [3,7,1,5,0,6,63,2,21] 9 #[(3:Int),(7:Int),(1:Int),(5:Int),(0:Int),(6:Int),(63:Int),(2:Int),(21:Int)] rfl rfl oM oM h oM).mono ?_;rintro e f ⟨x,c,rfl,b,a⟩;obtain⟨y,d,rfl⟩:∃ y:Nat,y<64∧x=(y:Int):=⟨x.toNat,by simp at c;omega,by simp at c;omega⟩;clear c;go_wp2_with fail
 go_ret;exact⟨y,d,rfl,b,((Dr.refl R w).alloc _).trans a⟩
theorem yD15a2 {P:Prop}(h:P:=by
 intro e w4 hret;obtain⟨b,A,n,c,A',n',c',rfl,zkh,hsh,hr4,hd4⟩:=hret.mono (N:=M+500) (sh':=zgZ) hd13 oM (fun b hb=>⟨a,p,ha,hp1,oM,hb⟩);obtain⟨f1,f2⟩:=zjp (N:=M+500) (sh:=zgZ) hxz zkh hsh.out hr4 hd4 bz rfl hRl (Nat.le_refl _) (Nat.le_refl _);have bz5:=bz.dr hd4 oM;have cZ:=bz5.cell;have fZ:=bz5.frozen;go_wp2_with fail
 have cf:=f2.cell;exact bodyPost_ret (v:=.agg #[b.al,.slice A n c,.slice A' n' c']) (by simp [results,Tryz.results196,go_sem,cf]) rfl f1.out
 ):P:=h
theorem spec_l3Over (h:Rd w R M)(hM:M<=800000000)(ha:a<64) :
  Calls Tryz.prog 196 #[.pointer (some R),a] w (zha R (M+500) zgZ w):=by
 have hRl:=h.lt
 go_enter Tryz.func196,Tryz.ntmps196
 go_wp2_with fail
 generalize U0:w.alloc _=l at *;have hxz:=Ext.al_ U0;have bz:=dZ U0;clear U0;refine (zC (h.ext hxz) oM).mono ?_;rintro e m ⟨y,rfl,-,-,g,f⟩
 by_cases hy:y=0
 ·subst hy;go_wp2_with fail
  refine (zba [3,2,4,1] 4 #[(3:Int),(2:Int),(4:Int),(1:Int)] rfl rfl oM oM g oM).mono ?_;rintro e k ⟨x,b,rfl,d,c⟩;obtain⟨p,hp1,i,rfl⟩:∃ y:Nat,1<=y∧y<=4∧x=(y:Int):=⟨x.toNat,by simp at b;omega,by simp at b;omega,by simp at b;omega⟩;clear b;have hd13:=(f.alloc _).trans c;go_wp2_with fail
  refine (zil d oM ha hp1 oM).mono ?_;exact yD15a2
 ·have j:((y:Int)==0)=false:=by simp;omega
  go_wp2_with fail
  refine (zba [2,3,1,4,5] 5 #[(2:Int),(3:Int),(1:Int),(4:Int),(5:Int)] rfl rfl oM oM g oM).mono ?_;rintro e k ⟨x,b,rfl,d,c⟩;obtain⟨p,hp1,i,rfl⟩:∃ y:Nat,1<=y∧y<=5∧x=(y:Int):=⟨x.toNat,by simp at b;omega,by simp at b;omega,by simp at b;omega⟩;clear b;have hd13:=(f.alloc _).trans c;go_wp2_with fail
  refine (zgq d oM ha oM).mono ?_;exact yD15a2
section
variable {w0 W W':World} {R G M N:Nat} {al:Int} {v vA:Value} {rows:List Value} {ls:List (List Int)} {acc:List Bool}
theorem zbS.setAl (h:zbS w0 W R G M al v rows ls vA acc) (x:Int):zbS w0 (W.setCell G x) R G M x v rows ls vA acc:=by
 have d:=h.hR;have a:=h.hG;have c:=dH W G 0 (.int .i64 x);refine⟨by simpa using h.blk.ab 0 _,zg h.nx c (fun b hb hS=>zr h.nx h.blk dM hb hS),h.rows.frm c (fun i r b hr hb hS=>?_),zg h.acc c (fun b hb hS=>zr h.acc h.blk dM hb hS),h.rd.frm c (fun k hk e=>oM),h.dr.ag (p:=⟨G,0,none⟩) a _,d,a⟩;obtain⟨g,_,f⟩:=h.rows.row hr;exact zr f h.blk dM hb hS
theorem zbS.setNext (h:zbS w0 W R G M al v rows ls vA acc) (ho:W.ownsRow w0.heap.size 128 1 v' 0 []):zbS w0 (W.setCell ⟨G,1,none⟩ v') R G M al v' [] [] vA acc:=by
 have c:=h.hR;have a:=h.hG;have d:=dH W G 1 v';exact⟨by simpa using h.blk.ab 1 _,zg ho d (fun b hb hS=>zr ho h.blk dM hb hS),zD.nil _ _,zg h.acc d (fun b hb hS=>zr h.acc h.blk dM hb hS),h.rd.frm d (fun k hk e=>oM),h.dr.ag (p:=⟨G,1,none⟩) a _,c,a⟩
theorem zbS.setMarks (h:zbS w0 W R G M al v rows ls vA acc) (ho:W.ownsRow w0.heap.size 4 1 v' 0 []):zbS w0 (W.setCell ⟨G,2,none⟩ v') R G M al v rows ls v' []:=by
 have d:=h.hR;have a:=h.hG;have c:=dH W G 2 v';refine⟨by simpa using h.blk.ab 2 _,zg h.nx c (fun b hb hS=>zr h.nx h.blk dM hb hS),h.rows.frm c (fun i r b hr hb hS=>?_),zg ho c (fun b hb hS=>zr ho h.blk dM hb hS),h.rd.frm c (fun k hk e=>oM),h.dr.ag (p:=⟨G,2,none⟩) a _,d,a⟩;obtain⟨f,_,ho⟩:=h.rows.row hr;exact zr ho h.blk dM hb hS
theorem zbS.growRow {row:Value}   {cap gN cN nN:Nat}(h:zbS w0 W R G M al (.slice (some gN) nN cN) rows ls vA acc)(hn:nN=ls.length)(hr:rows[i]?=some row)(hl:ls[i]?=some l)
  (zkh:W'.ownsRow w0.heap.size 3 1 (.slice (some g) (l.length+1) cap) (l.length+1) (ints l++[.int .i64 x])) (hg:W.grownBy W' row.ownBlock) (hat:row.ownBlock=some g∨g=W.heap.size+1) :
  (∀ u,W.cell? ⟨G,u,none⟩=W'.cell? ⟨G,u,none⟩)∧Hid (W'.cell? ⟨gN,i,none⟩=some row)∧W'.frozen? ⟨gN,i,none⟩=false ∧
  zbS w0 (W'.setCell ⟨gN,i,none⟩ (.slice (some g) (l.length+1) cap)) R G M al (.slice (some gN) nN cN) (rows.set i (.slice (some g) (l.length+1) cap)) (ls.set i (l++[x])) vA acc:=by
 subst hn;have z:=h.hR;have y:=h.hG;have F:i<ls.length:=(List.getElem?_eq_some_iff.1 hl).1;have t:=h.rows.2.1 i _ l hr hl;have n:Frm (fun k=>row.ownBlock=some k) W W':=Frm.ae hg;obtain⟨B,E⟩:=h.grown t hg;have v:Blk W' G 31 #[.int .i64 al,.slice (some gN) ls.length cN,vA]:=h.blk.frm n (fun e=>zr t h.blk dM e rfl);have a:W'.ownsRow w0.heap.size 128 1 (.slice (some gN) ls.length cN) ls.length rows:=zg h.nx n (fun b hb hS=>zaD h.nx t dM hb hS);have s:W'.ownsRow w0.heap.size 4 1 vA acc.length (zag acc):=zg h.acc n (fun b hb hS=>zaD h.acc t dM hb hS);have C:=(a.lt gN rfl).1;have q:=h.rows.1;have d:∀ (j:Nat) (r:Value) (b:Nat),j≠i->rows[j]?=some r->r.ownBlock=some b->b≠g:=fun j r b hji hj hb e=>by
  subst e;rcases hat with h1|h1
  ·exact h.rows.2.2 j i r row b hj hr hji hb h1
  ·have:=h.low j r b hj hb;omega
 have f:zD W' w0.heap.size (rows.set i (.slice (some g) (l.length+1) cap)) (ls.set i (l++[x])):=by
  refine⟨by simp [q],fun j r m hj hm=>?_,fun j j' r r' b hj hj' hne hb=>?_⟩
  ·by_cases hji:i=j
   ·subst hji;rw [eS oM] at hj;rw [eS F] at hm;obtain rfl:=Option.some.inj hj;obtain rfl:=Option.some.inj hm;simpa [ints] using zkh
   ·rw [fN hji] at hj hm;exact zg (h.rows.2.1 j r m hj hm) n (fun b hb hS=>h.rows.2.2 j i r row b hj hr (fun e=>hji e.symm) hb hS)
  ·by_cases hji:i=j
   ·subst hji;rw [eS oM] at hj;obtain rfl:=Option.some.inj hj;rw [fN hne] at hj';have o:g=b:=by simpa [Value.ownBlock] using hb
    subst o;exact fun hc=>d j' r' _ (fun e=>hne e.symm) hj' hc rfl
   ·rw [fN hji] at hj
    by_cases hji':i=j'
    ·subst hji';rw [eS oM] at hj';obtain rfl:=Option.some.inj hj';intro hc;have o:g=b:=by simpa [Value.ownBlock] using hc
     exact d j r b (fun e=>hji e.symm) hj hb o.symm
    ·rw [fN hji'] at hj';exact h.rows.2.2 j j' r r' b hj hj' hne hb
 have c:=dH W' gN i (.slice (some g) (l.length+1) cap);refine⟨fun u=>by rw [h.blk.cell,v.cell],za (by rw [a.cellAt i oM,hr]),a.frozenAt i,⟨v.frm c (fun e=>zr a v dM rfl e.symm),?_,?_,zg s c (fun b hb hS=>?_),E.frm c (fun k hk e=>oM),B.ag (p:=⟨gN,i,none⟩) C _,z,y⟩⟩
 ·rw [fJ];exact (a.stored i _).1
 ·refine f.frm c (fun j r b hj hb hS=>?_);obtain⟨H,_,D⟩:=f.row hj;subst hS;exact zaD D a dM hb rfl
 ·subst hS;exact zaD s a dM hb rfl
end
def BdL (L:Nat) (ls:List (List Int)) (acc:List Bool):Prop:=ls.length<=L∧acc.length<=L∧∀ l∈ls,l.length<=L
theorem BdL.more {K:Nat} {ls:List (List Int)} {acc:List Bool}(h:BdL L ls acc)(hK:L<=K):BdL K ls acc:=⟨dO h.1 hK,dO h.2.1 hK,fun l hl=>dO (h.2.2 l hl) hK⟩
def BdA (L:Nat) (b:Aut):Prop:=BdL L b.next b.acc
theorem BdA.of (h:zgZ b):BdA 16 b:=by
 obtain⟨a,p,ha,hp1,hp,h1,d,h3,c⟩:=h;exact⟨oM,oM,fun l hl=>by have:=c l hl;have:=zE a 6;omega⟩
theorem tot_le :∀ ls:List (List Int),(∀ l∈ls,l.length<=L)->tot ls<=ls.length*L
 |[],_=>by simp [tot]
 |l :: r,h=>by
  have:=tot_le r (fun x hx=>h x (by simp [hx]))
  have:=h l sM
  rw [tot_cons,fY,Nat.add_mul]
  omega
theorem BdA.size (h:BdA L b)(hL:L<=200):b.size<=1048576:=by
 have h1:=tot_le b.next h.2.2;have a:b.next.length*L<=200*200:=Nat.mul_le_mul (dO h.1 hL) hL;have h3:=h.1;have c:=h.2.1;unfold Aut.size;omega
theorem eq_edge (a b c d e f:Int) (w:World):(Op.equalIn 10000 152 (.agg #[a,b,c]) (.agg #[d,e,f])).run Tryz.prog w=.ok (a==d&&(b==e&&c==f)) w:=by
 have i:=Tryz.underlying3;have h:=Tryz.isAgg3;have j:=Tryz.sizeOf3;have g:Tryz.prog.underlying 152=some (.struct (Tryz.prog.fieldsOf 152)):=kM;have hp:Tryz.prog.stoodInHeld 152=false:=kM;rw [show (10000:Nat)=9999+1 from rfl,run_equalIn_agg w 9999 152 _ _ g hp];simp only [Program.fieldsOf,Tryz.underlying152];go_simp
 by_cases h1:a=d<;>by_cases h2:b=e<;>by_cases h3:c=f<;>simp [h1,h2,h3]
theorem wrong_acc (hr:Rd w R M)(hx:Ext w w1)(hR:R<w.heap.size)(hxW:Ext w1 W) (zkh:W.ownsRow w1.heap.size 152 3 v es.length (zw es))(hG:w1.heap.size<=G)(hB:Blk W G 38 #[al,st,v]) :
  Acc w w1 W R G M al st v es:=
 ⟨hB,zkh,hr.ext (hx.trans hxW),(hx.trans hxW).dr,hxW.aj,hR,hx.size,dO hx.size hG⟩
theorem edge_lit (w:World):(w.alloc (.cells #[] 152)).drew.ownsRow w.heap.size 152 3 (.slice (some w.heap.size) 0 0) 0 []:=
 World.ownsRow_lit w #[] 0 (dG _) lM rfl
theorem zjA (hn:n=es.length)(h:W.ownsRow base 152 3 v n (zw es)):W.ownsRow base 152 3 v es.length (zw es):=by
 subst hn;exact h
theorem zgY (hr:Rd w R M)(hx:Ext w w1)(hR:R<w.heap.size)(hxW:Ext w1 W) (zkh:W.ownsRow w1.heap.size 152 3 v es.length (zw es))(hB:Blk W G 38 #[(0:Int),(0:Int),()])(hG:w1.heap.size<=G) :
  ∃ (G':Nat) (v':Value),Value.pointer (some G)=.pointer (some G')∧w1.heap.size<=G'∧Acc w w1 (((W.setCell G al).setCell ⟨G,1,none⟩ st).setCell ⟨G,2,none⟩ v) R G' M al st v' es:=by
 have h:=zeW W G (.int .i64 al) (.int .i64 st) v;have c:∀ b,v.ownBlock=some b->b≠G:=by
  rintro b a rfl;rcases zkh.2 with ⟨rfl,_⟩|⟨g,d,f,rfl,_,j,_⟩
  ·simp [Value.ownBlock] at a
  ·have i:g=b:=by simpa [Value.ownBlock] using a
   subst i;unfold Blk at hB;rw [j] at hB;injection hB with hB
   injection hB with _ ht
   exact absurd ht dM
 refine⟨G,v,rfl,hG,wrong_acc hr hx hR ?_ (zg zkh h (fun b a hS=>c b a hS)) hG (by simpa using ((hB.ab 0 (.int .i64 al)).ab 1 (.int .i64 st)).ab 2 v)⟩;exact ((hxW.setCell (p:=⟨G,0,none⟩) hG _).setCell (p:=⟨G,1,none⟩) hG _).setCell (p:=⟨G,2,none⟩) hG _
theorem zhs {wB:World}     (h:Acc w0 wB W R G M al st (.slice A n c) es)(hn:0<n):∃ g,A=some ⟨g,0,none⟩:=by
 rcases h.own.2 with ⟨a,f⟩|⟨g,b,d,a,_⟩
 ·injection a with _ h2 _;omega
 ·injection a with h1
  exact⟨g,h1⟩
theorem yD15a4 {P:Prop}(h:P:=by
 have h1':=h1.out;refine zU fun K hK=>?_;go_simp;refine hK.out _ _ ?_;refine zaq ?_;go_wp2_with fail
 go_meet;exact⟨_,_,_,_,h3.more oM,by have:=HnL.out;simp;omega⟩
 ):P:=h
theorem yD15a5 {P:Prop}(h:P:=by
 refine zU fun K hK=>?_;go_simp;refine hK.out _ _ ?_;refine zaq ?_;go_wp2_with fail
 go_meet;exact⟨_,_,_,_,hst.more oM,by have:=HnL.out;simp;omega⟩
 ):P:=h
theorem zch (h:Rd w R M)(hM:M<=900000000)(hs:zbV w R A n s)(hn:n<=L)(hL:L<=100000) :
  Calls Tryz.prog 167 #[.pointer (some R),.agg #[s.al,s.st,.slice A n c]] w (RetA R (M+10) (L+1) w):=by
 have hRl:=h.lt;have T:=hs.at_.2;have F:=za hs.1;obtain⟨al,st,d⟩:=s;simp only at T F ⊢;obtain⟨b,U0⟩:∃ x,Hid ((w.alloc (.cells #[al,st,.slice A n c] 38)).alloc (.cells #[(0:Int),(0:Int),()] 38)=x):=⟨_,za rfl⟩;have au:Ext w b:=(((cY _).alloc _).alloc _).trans (eZ U0.out);obtain⟨bS,bZ⟩:=zN (eZ U0.out);have ar:b.heap.size=w.heap.size+2:=by rw [← U0.out];simp
 have ay:=za bS;have ah:=za bZ;have D:=za au;have az:=za ar;clear bS bZ au ar hs
 go_enter Tryz.func167,Tryz.ntmps167
 go_wp2_with fail
 rw [U0.out] at *;have a0:w.heap.size+2<=b.heap.size:=by rw [az.out];exact dG _
 go_upto_region 1 with fail
 go_cut [5] (fun s5 wx=>∃ (G:Nat) (v:Value),s5=.pointer (some G)∧b.heap.size<=G∧Acc w b wx R G M al st v d)
 case first =>
  have cS:=fun W (hW:Ext b W)=>(ay.out.ext hW).cell;refine tR (fun X=>Ext b X) [10] (Ord.app [0,1,2,3,5,6] (Ord.two 4 (Ord.two 7 (Ord.of [8,9,10]) 9 (Ord.of [7,8,10])) 9 (Ord.of [4,7,8,10]))) ?_;refine tQ ?_;refine zgu (fun K hK=>?_) (fun K hK=>?_)
  ·go_simp;have l:Ext b (b.alloc (.cells #[] 152)).drew:=((cY b).alloc _).drew;have zkh:(b.alloc (.cells #[] 152)).drew.ownsRow b.heap.size 152 3 (.slice (some b.heap.size) 0 0) 0 []:=edge_lit b;have ab:(b.alloc (.cells #[] 152)).drew.heap.size=b.heap.size+1:=sM;refine hK.out _ _ l ?_;refine pT ?_;generalize (b.alloc (.cells #[] 152)).drew=w2 at *;refine zgu (fun K hK=>?_) (fun K hK=>?_)
   ·refine zx _ _ _ _ rfl b.heap.size 152 _ 3 24 Tryz.underlying36 zbn rfl dM (.slice (some b.heap.size) 0 0) 0 [] rfl zkh (R+1) w.heap.size A n c (zw d) rfl (T.ext (D.out.trans l)) (zdc d) lM oM l.size ?_;intro v w3 zks hg3 hat3;rw [dW,eJ] at zks;obtain⟨A3,c3,rfl⟩:=zi zks;have i:Ext b w3:=l.grown hg3 (fun k E=>by simp [Value.ownBlock] at E;omega);refine hK.out _ _ i ?_;refine pT ?_;refine tQ ?_;refine zB fun K hK=>?_;go_simp;refine hK.out _ _ (i.alloc _) ?_;refine pT ?_;refine tQ ?_;refine zU fun K hK=>?_;go_simp;refine hK.out _ _ ?_;refine zaq ?_;go_wp2_with fail
    go_meet;exact⟨w3.heap.size,.slice A3 n c3,rfl,i.size,wrong_acc h D.out hRl (i.alloc _) (zh (zjA F.out zks) ((cY _).alloc _)) i.size (dX _ _ _)⟩
   ·go_simp;have i:=l.alloc (.cells #[(0:Int),(0:Int),()] 38);have av:=(cY w2).alloc (.cells #[(0:Int),(0:Int),()] 38);replace zkh:=zh zkh av;refine hK.out _ _ i ?_;generalize U0:w2.alloc _=a2 at *;have O:=dZ U0;clear U0;rw [ab] at O;have l:=i;refine pT ?_;refine zB (fun K hK=>?_);refine zx _ _ _ _ rfl b.heap.size 152 _ 3 24 Tryz.underlying36 zbn rfl dM (.slice (some b.heap.size) 0 0) 0 [] rfl zkh (R+1) w.heap.size A n c (zw d) rfl (T.ext (D.out.trans l)) (zdc d) lM oM l.size ?_;intro v w3 zks hg3 hat3;rw [dW,eJ] at zks;obtain⟨A3,c3,rfl⟩:=zi zks;have i:Ext b w3:=l.grown hg3 (fun k E=>by simp [Value.ownBlock] at E;omega);have t:Blk w3 (b.heap.size+1) 38 #[.int .i64 0,.int .i64 0,.slice none 0 0]:=O.frm (Frm.ae hg3) (by simp [Value.ownBlock]);refine hK.out _ _ i ?_;refine pT ?_;refine tQ ?_;have cE:=t.cell;have fE:=t.frozen;refine zU fun K hK=>?_;go_simp;refine hK.out _ _ ?_;refine zaq ?_;go_wp2_with fail
    go_meet;exact zgY h D.out hRl i (zjA F.out zks) t oM
  ·go_simp;have l:Ext b (b.alloc (.cells #[(0:Int),(0:Int),()] 38)).drew:=((cY b).alloc _).drew;have aA:Blk (b.alloc (.cells #[(0:Int),(0:Int),()] 38)).drew b.heap.size 38 #[.int .i64 0,.int .i64 0,.slice none 0 0]:=dX b _ _;have ab:(b.alloc (.cells #[(0:Int),(0:Int),()] 38)).drew.heap.size=b.heap.size+1:=sM;refine hK.out _ _ l ?_;refine pT ?_;generalize (b.alloc (.cells #[(0:Int),(0:Int),()] 38)).drew=w2 at *;refine zB fun K hK=>?_;go_simp;have i:=l.alloc (.cells #[] 152);have zkh:(w2.alloc (.cells #[] 152)).ownsRow b.heap.size 152 3 (.slice (some ⟨b.heap.size+1,0,none⟩) 0 0) 0 []:=by
    rw [← ab];exact World.ownsRow_lit w2 #[] 0 l.size lM rfl
   have O:=aA.ext ((cY w2).alloc (.cells #[] 152));refine hK.out _ _ i ?_;generalize w2.alloc _=w3 at *;refine pT ?_;refine zB (fun K hK=>?_);refine zx _ _ _ _ rfl b.heap.size 152 _ 3 24 Tryz.underlying36 zbn rfl dM (.slice (some ⟨b.heap.size+1,0,none⟩) 0 0) 0 [] rfl zkh (R+1) w.heap.size A n c (zw d) rfl (T.ext (D.out.trans i)) (zdc d) lM oM i.size ?_;intro v w4 hown4 hg4 hat4;rw [dW,eJ] at hown4;obtain⟨A4,c4,rfl⟩:=zi hown4;have aw:Ext b w4:=i.grown hg4 (fun k E=>by simp [Value.ownBlock] at E;omega);have t:Blk w4 b.heap.size 38 #[.int .i64 0,.int .i64 0,.slice none 0 0]:=O.frm (Frm.ae hg4) (by simp [Value.ownBlock]);refine hK.out _ _ aw ?_;refine pT ?_;refine tQ ?_;have cE:=t.cell;have fE:=t.frozen;refine zU fun K hK=>?_;go_simp;refine hK.out _ _ ?_;refine zaq ?_;go_wp2_with fail
   go_meet;exact zgY h D.out hRl aw (zjA F.out hown4) t (dG _)
 case rest =>
  obtain⟨G,v,rfl,aY,a⟩:=hcut;obtain⟨A1,n1,c1,rfl⟩:=a.form;obtain⟨rfl,aq⟩:=a.reads;have aZ:=a.hG;have J:=a.blk.cell;have ao:=aq.2.len;clear aq;have aD:d.length<=L:=oH F.out;have HnL:=za aD;go_wp2_with fail
  refine (zC (n:=d.length) a.rd oM).mono ?_;rintro e w3 ⟨k,rfl,am,aC,ap,ak⟩;replace a:=a.drawn ak ap;clear ak ap J;have Hk:=za am;clear am aC;go_wp2_with fail
  refine (zC (n:=30) a.rd oM).mono ?_;rintro e w4 ⟨y,rfl,-,-,hr4,hd4⟩;replace a:=a.drawn hd4 hr4;clear hd4 hr4;go_upto_block 0 with fail
  go_cut [] (fun wx=>∃ (al st:Int) (v:Value) (V:List Edg),Acc w b wx R G (M+10) al st v V∧V.length<=L+1)
  case first =>
   have aS:=za ao;clear ao;have Q:y=0∨y=1∨y=2∨y=3∨y=4∨y=5∨y=6∨7<=y:=oM;rcases Q with C|C|C|C|C|C|C|C
   ·subst C;have aE:True:=trivial;go_wp2_with fail
    refine (zba [64,(-1),1,63] 4 #[(64:Int),.int .i64 (-1),(1:Int),(63:Int)] rfl rfl oM oM a.rd oM).mono ?_;rintro e H ⟨x,-,rfl,p,j⟩;replace a:=(a.ext ((cY _).alloc _)).drawn j p;have J:=a.blk.cell;have fG:=a.blk.frozen;go_wp2_with fail
    go_meet;exact⟨_,_,_,d,(a.setAl x).more oM,oH HnL.out⟩
   ·subst C;have aE:True:=trivial;go_wp2_with fail
    refine (zba [0,17,(-1),16,1] 5 #[(0:Int),(17:Int),.int .i64 (-1),(16:Int),(1:Int)] rfl rfl oM oM a.rd oM).mono ?_;rintro e H ⟨x,-,rfl,p,j⟩;replace a:=(a.ext ((cY _).alloc _)).drawn j p;have J:=a.blk.cell;have fG:=a.blk.frozen;go_wp2_with fail
    go_meet;exact⟨_,_,_,d,(a.setSt x).more oM,oH HnL.out⟩
   ·subst C
    by_cases hn0:0<d.length
    ·have E:=Hk.out oM;have B:k<d.length:=oM;obtain⟨g,rfl⟩:=zhs a hn0;have o:d.length≠0:=oM;have Y:R<b.heap.size:=by have:=a.hR;have:=a.hB;omega
     have J:∀ W,Dr R w4 W->∀ q,W.cell? ⟨G,q,none⟩=#[Value.int .i64 al,.int .i64 st,.slice (some g) d.length c1][q]?:=fun W hW=>(a.blk.dr hW (oH a.hG)).cell;clear E o;go_wp2_with fail
     refine tR (fun X=>Dr R w4 X) [8] (Ord.of [0,1,2,3,4,5,6,7,8]) ?_;refine tQ ?_;refine zB fun K hK=>?_;go_simp;refine hK.out _ _ ((Dr.refl R w4).drew.alloc _) ?_;refine pT ?_;refine tQ ?_;refine zB fun K hK=>?_;go_simp;refine (zba (w:=w4.drew) [(-1),16,0,2] 4 #[.int .i64 (-1),(16:Int),(0:Int),(2:Int)] rfl rfl oM oM (a.rd.ext (cY _).drew) oM).mono ?_;rintro e H ⟨x,-,rfl,p,j⟩;have m:Dr R w4 H:=((Dr.refl R w4).drew.alloc _).trans j;have f:=a.drawn m p;refine hK.out _ _ m ?_;refine pT ?_;refine tQ ?_;have zkh:=f.own;obtain⟨o0,c0⟩:=zaY zkh (k*3) oM;have f0:=zkh.frozenAt (k*3);have hst:=f.turn rfl (zen (dF B) x).1 sM;exact yD15a5
    ·have aa:d.length=0:=oM;clear hn0;go_wp2_with fail
     go_meet;exact⟨_,_,_,d,a.more oM,oH HnL.out⟩
   ·subst C
    by_cases hn0:0<d.length
    ·have E:=Hk.out oM;have B:k<d.length:=oM;obtain⟨g,rfl⟩:=zhs a hn0;have o:d.length≠0:=oM;have Y:R<b.heap.size:=by have:=a.hR;have:=a.hB;omega
     have J:∀ W,Dr R w4 W->∀ q,W.cell? ⟨G,q,none⟩=#[Value.int .i64 al,.int .i64 st,.slice (some g) d.length c1][q]?:=fun W hW=>(a.blk.dr hW (oH a.hG)).cell;clear E o;go_wp2_with fail
     refine tR (fun X=>Dr R w4 X) [8] (Ord.of [0,1,2,3,4,5,6,7,8]) ?_;refine tQ ?_;refine zB fun K hK=>?_;go_simp;refine hK.out _ _ ((Dr.refl R w4).drew.alloc _) ?_;refine pT ?_;refine tQ ?_;refine zB fun K hK=>?_;go_simp;refine (zba (w:=w4.drew) [(-1),16,0,3] 4 #[.int .i64 (-1),(16:Int),(0:Int),(3:Int)] rfl rfl oM oM (a.rd.ext (cY _).drew) oM).mono ?_;rintro e H ⟨x,-,rfl,p,j⟩;have m:Dr R w4 H:=((Dr.refl R w4).drew.alloc _).trans j;have f:=a.drawn m p;refine hK.out _ _ m ?_;refine pT ?_;refine tQ ?_;have zkh:=f.own;obtain⟨o0,c0⟩:=zaY zkh (k*3+2) oM;have f0:=zkh.frozenAt (k*3+2);have hst:=f.turn rfl (zen (dF B) x).2.2 sM;exact yD15a5
    ·have aa:d.length=0:=oM;clear hn0;go_wp2_with fail
     go_meet;exact⟨_,_,_,d,a.more oM,oH HnL.out⟩
   ·subst C
    by_cases hn0:0<d.length
    ·have E:=Hk.out oM;have B:k<d.length:=oM;obtain⟨g,rfl⟩:=zhs a hn0;have o:d.length≠0:=oM;have Y:R<b.heap.size:=by have:=a.hR;have:=a.hB;omega
     have J:∀ W,Dr R w4 W->∀ q,W.cell? ⟨G,q,none⟩=#[Value.int .i64 al,.int .i64 st,.slice (some g) d.length c1][q]?:=fun W hW=>(a.blk.dr hW (oH a.hG)).cell;clear E o;go_wp2_with fail
     refine tR (fun X=>Dr R w4 X) [8] (Ord.of [0,1,2,3,4,5,6,7,8]) ?_;refine tQ ?_;refine zB fun K hK=>?_;go_simp;refine hK.out _ _ ((Dr.refl R w4).drew.alloc _) ?_;refine pT ?_;refine tQ ?_;refine zB fun K hK=>?_;go_simp;refine (zba (w:=w4.drew) [(-1),6,70,5,0] 5 #[.int .i64 (-1),(6:Int),(70:Int),(5:Int),(0:Int)] rfl rfl oM oM (a.rd.ext (cY _).drew) oM).mono ?_;rintro e H ⟨x,-,rfl,p,j⟩;have m:Dr R w4 H:=((Dr.refl R w4).drew.alloc _).trans j;have f:=a.drawn m p;refine hK.out _ _ m ?_;refine pT ?_;refine tQ ?_;have zkh:=f.own;obtain⟨o0,c0⟩:=zaY zkh (k*3+1) oM;have f0:=zkh.frozenAt (k*3+1);have hst:=f.turn rfl (zen (dF B) x).2.1 sM;exact yD15a5
    ·have aa:d.length=0:=oM;clear hn0;go_wp2_with fail
     go_meet;exact⟨_,_,_,d,a.more oM,oH HnL.out⟩
   ·subst C
    by_cases hn0:0<d.length
    ·have E:=Hk.out oM;have B:k<d.length:=oM;obtain⟨g,rfl⟩:=zhs a hn0;have o:d.length≠0:=oM;have zkh:=a.own;have hE:=za (dF B);obtain⟨ed,aB⟩:∃ ed,Hid (d[k]?=some ed):=⟨_,hE.out⟩;obtain⟨d0,d1,d2⟩:=zdb aB.out;have J:=fun W (hW:Ext w4 W)=>(a.blk.ext hW).cell;have C0:∀ W,Ext w4 W->W.cell? ⟨g,k*3,none⟩=some (.int .i64 ed.fr):=fun W hW=>hW.aa (by rw [zkh.cellAt _ oM];exact d0);have C1:∀ W,Ext w4 W->W.cell? ⟨g,k*3+1,none⟩=some (.int .i64 ed.le):=fun W hW=>hW.aa (by rw [zkh.cellAt _ oM];exact d1);have C2:∀ W,Ext w4 W->W.cell? ⟨g,k*3+2,none⟩=some (.int .i64 ed.ta):=fun W hW=>hW.aa (by rw [zkh.cellAt _ oM];exact d2);clear E o d0 d1 d2;go_wp2_with fail
     refine tR (fun X=>Ext w4 X) [8,10] (Ord.of [0,1,2,3,4,5,6,7,8,9,10]) ?_;refine tQ ?_;refine zB fun K hK=>?_;go_simp;refine hK.out _ _ ((cY _).drew.alloc _) ?_;refine pT ?_;refine zU fun K hK=>?_;refine zaI b w4.drew _ _ _ rfl 152 _ 3 24 Tryz.underlying36 zbn rfl dM (.slice (some g) d.length c1) d.length (zw d) _ _ rfl rfl a.fr.size zkh rfl (by simp [Value.oneCell']) lM oM ?_;intro g5 cap5 H zkt hg5 hat5 hlt5;refine hK.out _ _ ?_;refine pT ?_;refine tQ ?_;obtain⟨h1,h2,h3⟩:=(a.ext ((cY _).drew)).push (e:=ed) (W':=H) zkt hg5 hat5;exact yD15a4
    ·have aa:d.length=0:=oM;clear hn0;go_wp2_with fail
     go_meet;exact⟨_,_,_,d,a.more oM,oH HnL.out⟩
   ·subst C;have Y:R<b.heap.size:=by have:=a.hR;have:=a.hB;omega
    have J:∀ W,Dr R w4 W->∀ q,W.cell? ⟨G,q,none⟩=#[Value.int .i64 al,.int .i64 st,.slice A1 d.length c1][q]?:=fun W hW=>(a.blk.dr hW (oH a.hG)).cell;go_wp2_with fail
    refine tR (fun X=>Dr R w4 X) [10,12] (Ord.of [0,1,2,4,6,3,5,7,8,9,10,11,12]) ?_;refine tQ ?_;refine zB fun K hK=>?_;go_simp;refine (zC (n:=4) (a.rd.ext (cY _).drew) oM).mono ?_;rintro e H ⟨x,rfl,-,-,p,j⟩;replace j:=((Dr.refl R w4).drew).trans j;refine hK.out _ _ j ?_;refine pT ?_;refine tQ ?_;refine zB fun K hK=>?_;go_simp;refine (zC (n:=3) p oM).mono ?_;rintro e w6 ⟨z,rfl,-,-,hr6,S⟩;replace S:=j.trans S;refine hK.out _ _ S ?_;refine pT ?_;refine tQ ?_;refine zB fun K hK=>?_;go_simp;refine (zC (n:=4) hr6 oM).mono ?_;rintro e w7 ⟨u,rfl,-,-,hr7,hd7⟩;replace hd7:=S.trans hd7;refine hK.out _ _ hd7 ?_;have r:=a.drawn hd7 hr7;refine pT ?_;refine tQ ?_;refine zB fun K hK=>?_;go_simp;refine hK.out _ _ (hd7.alloc _) ?_;refine pT ?_;refine zU fun K hK=>?_;refine zaI b w7 _ _ _ rfl 152 _ 3 24 Tryz.underlying36 zbn rfl dM (.slice A1 d.length c1) d.length (zw d) _ _ rfl rfl r.fr.size r.own rfl (by simp [Value.oneCell']) (by unfold maxLen;have:=HnL.out;omega) (oH HnL.out) ?_;intro g8 cap8 w8 hown8 hg8 hat8 hlt8;refine hK.out _ _ ?_;refine pT ?_;refine tQ ?_;obtain⟨h1,h2,h3⟩:=r.push (e:=⟨x,z,u⟩) (W':=w8) hown8 hg8 hat8;exact yD15a4
   ·have h0:((y:Int)==0)=false:=by simp;omega
    have h1:((y:Int)==1)=false:=by simp;omega
    have h2:((y:Int)==2)=false:=by simp;omega
    have h3:((y:Int)==3)=false:=by simp;omega
    have h4:((y:Int)==4)=false:=by simp;omega
    have h5:((y:Int)==5)=false:=by simp;omega
    have h6:((y:Int)==6)=false:=by simp;omega
    clear C;go_wp2_with fail
    go_meet;exact⟨_,_,_,d,a.more oM,oH HnL.out⟩
  case rest =>
   clear a;obtain⟨I,U,v',V,a,an⟩:=hcut;obtain⟨A',n',c',rfl⟩:=a.form;obtain⟨rfl,_⟩:=a.reads;have J:=a.blk.cell;have aj:=ah.out.frm a.fr oM;have cz:=aj.cell;have a1:=ah.out.lt;have fz:=aj.frozen;obtain⟨f1,f2,f3⟩:=a.fin (Z:=w.heap.size+1) oM oM (.int .i64 I) (.int .i64 U) (.slice A' V.length c');have ai:=za (show RetA R (M+10) (L+1) w (.returned (.agg #[I,U,.slice A' V.length c'])) _ from ⟨⟨I,U,V⟩,A',V.length,c',rfl,f1,⟨an,zjM a.own⟩,f2,f3⟩);clear f1 f2 f3;go_wp2_with fail
   exact bodyPost_ret (v:=.agg #[I,U,.slice A' V.length c']) (by simp [results,Tryz.results167,go_sem,cz]) rfl ai.out
end Go.Proofs.YtcfchopfijalpaaGreatDoor
