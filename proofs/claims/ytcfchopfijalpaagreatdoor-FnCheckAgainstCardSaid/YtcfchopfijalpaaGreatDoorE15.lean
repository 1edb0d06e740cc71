/- impl.newSafe -/
import Derived.Test.YtcfchopfijalpaaGreatDoorE14
import Derived.Laws.StructEq
set_option maxHeartbeats 4000000
set_option maxRecDepth 100000
namespace Go.Proofs.YtcfchopfijalpaaGreatDoor
open Go Go.RowKit
open Blk renaming new->dV
open Ext renaming bl_->dU,eq_->eP,refl->cY,x1_->gG
open Frm renaming setCell->dE
open List renaming getElem?_eq_getElem->dC,getElem?_set_ne->fL,getElem?_set_self->eQ,length_cons->fX,length_set->fH,mem_of_getElem?->dB
open Nat renaming le_refl->dD,le_trans->dJ,zero_le->dF
variable {A A':Option Addr} {L M N R Z a base c c' g i n n' p:Nat} {S:Nat->Prop} {W w w' w0:World} {b:Aut} {cs us:Array Value} {l:List Int} {t:TypeId} {v:Bool} {v':Value} {x:Int}
theorem Blk.diff {h:Nat} {u:TypeId} {ds:Array Value} (a:Blk w g t cs) (b:Blk w h u ds)(hne:t≠u):g≠h:=by
 rintro rfl;unfold Blk at a b;rw [a] at b;injection b with b
 injection b with _ b
 exact hne b
theorem Tab.frm {T:Nat->Prop} {W':World}(h:Tab w)(hx:Ext w W)(hf:Frm T W W')(hT:∀ q,T q->w.heap.size<=q):Tab W':=fun j hj=>by
 have h1:=hx.aa (h j hj)
 have h0:=World.block_lt_of_cell? w _ (h j hj)
 have h2:=World.block_lt_of_cell? W _ h1
 exact (World.cell?_of_block (w:=W) (hf.block _ h2 (fun e=>by have:=hT _ e;omega))).trans h1
structure NsI (F:Sfx) (s:Sys) (p:Aut) (L:Nat) (w wx:World):Prop where
 ok:ziZ F
 hs:F.s=s
 hp:F.p=p
 hL:F.L=L
 b0:F.b0=w.heap.size
 blk:Blk wx F.G 245 (sfC F (.slice none 0 0) (.slice none 0 0) (.slice none 0 0))
 map:zeH 249 litP domP wx F.mb 0 (fun _=>none)
 w9:wx=F.w9
 ext:Ext w wx
section
variable {w W:World} {lo hi n c m d m' d' L:Nat} {A B B':Option Addr} {s:Sys} {p:Aut}
theorem ns_fin {w1:World} {mv rc hc mb:Nat} {RA HA:Option Addr}(hs:zl s=true)(hp:zj p=true)(hL:L<64)(hP:zJ w lo hi B m B' m' p)(h0:Ext w0 w)(hhi:hi<=w0.heap.size)(hT:Tab w0)(hw1:Ext w w1)(hx:Ext w1 W)(hmvg:w.heap.size<=mv)(hbg:w.heap.size<=base)
  (hmv:MovB W mv s.edges) (htb:∃ bt,w.heap.size<=bt∧W.ownsRow bt 179 6 (.slice RA p.next.length rc) p.next.length (tbC p.next.length (aGo p))) (hhd:W.ownsRow base 3 1 (.slice HA (hidS s L).length hc) (hidS s L).length (zax (hidS s L))) (hmp:zeH 249 litP domP W mb 0 (fun _=>none)) (hmb:w.heap.size<=mb) :
  ∃ F:Sfx,Value.pointer (some W.heap.size)=.pointer (some ⟨F.G,0,none⟩)∧F.lo=w0.heap.size∧NsI F s p L w (W.alloc (.cells #[s.al,s.st,.slice A n c,p.al,.slice B m d,.slice B' m' d',L,.pointer (some mv),.slice RA p.next.length rc,.slice HA (hidS s L).length hc,(),.map (some mb),(),()] 245)):=by
 have hb:=dV W 245 #[s.al,s.st,.slice A n c,p.al,.slice B m d,.slice B' m' d',L,.pointer (some mv),.slice RA p.next.length rc,.slice HA (hidS s L).length hc,(),.map (some mb),(),()];have f:Ext W (W.alloc (.cells #[s.al,s.st,.slice A n c,p.al,.slice B m d,.slice B' m' d',L,.pointer (some mv),.slice RA p.next.length rc,.slice HA (hidS s L).length hc,(),.map (some mb),(),()] 245)):=(cY _).alloc _;generalize W.alloc _=X at *;have u:=(hw1.trans hx).size;have r:=hb.lt;have J:=hmp.lt;have g:=(hw1.trans hx).trans f;have i:=hmp.ext f;obtain⟨C,j,I⟩:=hmv.ext f;obtain⟨bt,o,t⟩:=htb;have h:=zh t f;have z:=zh hhd f;refine⟨⟨s,p,L,A,n,c,B,m,d,B',m',d',mv,RA,rc,HA,hc,W.heap.size,mb,w.heap.size,w0.heap.size,X⟩,rfl,rfl,⟨⟨hs,hp,hL,fun Y hY=>?_,h0.size,u,r,hmb,i.lt,by show mb≠W.heap.size;omega⟩,rfl,rfl,rfl,rfl,hb,i,rfl,g⟩⟩;have x:∀ q,Sfx.two ⟨s,p,L,A,n,c,B,m,d,B',m',d',mv,RA,rc,HA,hc,W.heap.size,mb,w.heap.size,w0.heap.size,X⟩ q->w0.heap.size<=q:=fun q hq=>by
  have D:=h0.size;rcases hq with e|e|e
  ·have l:q=W.heap.size:=e;omega
  ·have l:q=mb:=e;omega
  ·exact e.1
 have y:∀ {e:TypeId} {sz k b:Nat} {v:Value} {xs:List Value},X.ownsRow b e sz v k xs->w.heap.size<=b->e≠245->∀ q,v.ownBlock=some q->¬ Sfx.two ⟨s,p,L,A,n,c,B,m,d,B',m',d',mv,RA,rc,HA,hc,W.heap.size,mb,w.heap.size,w0.heap.size,X⟩ q:=fun ho hbb hne q hq h=>by
  rcases h with e|e|e
  ·exact zR ho hb hne hq e
  ·have l:q=mb:=e;subst l;exact i.ao ho hq
  ·have E:q<w.heap.size:=e.2;have H:=(ho.lt q hq).1;omega
 have a:Frm (Sfx.two ⟨s,p,L,A,n,c,B,m,d,B',m',d',mv,RA,rc,HA,hc,W.heap.size,mb,w.heap.size,w0.heap.size,X⟩) X Y:=hY;refine⟨hT.frm (h0.trans g) a x,MovB.at_ ⟨C,j.frm a (fun h=>?_),I⟩,?_,?_,⟨lo,hi,((hP.2.2.ext g).frm a (fun q _ H h6=>by have:=x q h6;omega))⟩⟩
 ·rcases h with e|e|e
  ·exact j.diff hb dM e
  ·exact i.far j e
  ·have E:mv<w.heap.size:=e.2;omega
 ·exact TbO.at_ ⟨bt,zg h a (y h o dM)⟩
 ·exact⟨_,_,Lst.ai (zg z a (y z hbg dM))⟩
def T00:List Nat:=(List.replicate 12 0).set 0 1
theorem zgd:zbK T00 12 (fun q i=>q=0∧i=0):=ziz (n:=12) dM
theorem T00_ws {p:Aut}(h:0<p.next.length):WS p T00:=⟨zgd.1,zgd.2.1,fun i q hb=>by rw [((zgd.2.2 i q).1 hb).2];exact h⟩
def RetNs (s:Sys) (p:Aut) (L z:Nat) (w:World) (e:Ending) (w':World):Prop:=∃ (F:Sfx) (S:Nat->Prop),e=.returned (.pointer (some ⟨F.G,0,none⟩))∧ziZ F∧F.s=s∧F.p=p∧F.L=L∧F.lo=z∧F.b0=w.heap.size∧SafJ F 0 w' S∧Ext w w'
theorem yE15b1 {P:Prop}(h:P:=by
 go_simp;refine hK.out _ _ ?_;refine pT ?_;refine uQ ?_;refine zf ?_;go_wp2_with fail
 go_meet;obtain⟨F,f1,f2,f3⟩:=zkx;exact⟨F,f1,f2,f3⟩
 ):P:=h
theorem yE15a3 {P:Prop}(h:P:=by
 replace htb:=zh htb hy13;refine uQ ?_;refine zb fun K hK=>?_;have zkx:=ns_fin (A:=A) (n:=n) (c:=c) (d:=d) (d':=d') Hs.out Hp.out hL64 HP0.out h0 hhi Htab.out hw1 hxw13 hmvw hbhd hmv ⟨bt,hbtw,htb⟩ hhd hmp0 hmbge;exact yE15b1
 ):P:=h
theorem yE15a5 {P:Prop}(h:P:=by
 exact yE15b1
 ):P:=h
theorem ziN (h0:Ext w0 w)(hS:zP w lo hi A n s)(hP:zJ w lo hi B m B' m' p)(hs:zl s=true)(hp:zj p=true)(hL64:L<64)(hhi:hi<=w0.heap.size)(hT:Tab w0) :
  Calls Tryz.prog 154 #[.agg #[s.al,s.st,.slice A n c,p.al,.slice B m d,.slice B' m' d',L]] w (RetNs s p L w0.heap.size w):=by
 have Hs:=za hs;have Hp:=za hp;have HP0:=za hP;have Htab:=za hT;have C:=zcD hs;have J:=za (show Few 16 s.edges from fun e he=>by have:=C.2.2.1 e he;have:=C.2.1;omega);obtain⟨ak,am⟩:=zQ hs;have aN:s.al.toNat<64:=oM;have D:Sm (diff s.al.toNat L):=by
  have:=diff_le s.al.toNat L;unfold Sm;omega
 have aD:bits .andNot .i64 s.al (L:Int)=((diff s.al.toNat L:Nat):Int):=by
  have h1:=bits_andNot (a:=s.al.toNat) (b:=L) tM tM;rwa [show ((s.al.toNat:Nat):Int)=s.al by omega] at h1
 have hw1:Ext w (w.alloc (.cells #[s.al,s.st,.slice A n c,p.al,.slice B m d,.slice B' m' d',L] 96)):=(cY _).alloc _;have b1:=dV w 96 #[s.al,s.st,.slice A n c,p.al,.slice B m d,.slice B' m' d',L];have HS:=za (fun X (hX:Ext (w.alloc (.cells #[s.al,s.st,.slice A n c,p.al,.slice B m d,.slice B' m' d',L] 96)) X)=>hS.ext (hw1.trans hX));have HP:=za (fun X (hX:Ext (w.alloc (.cells #[s.al,s.st,.slice A n c,p.al,.slice B m d,.slice B' m' d',L] 96)) X)=>hP.ext (hw1.trans hX));have hp1:=(zk hp).2.1;clear hs hp hS hP hT C ak am;have aO:=@run_makeMap Tryz.prog
 go_enter Tryz.func154,Tryz.ntmps154
 go_upto_region 1 with fail
 generalize w.alloc _=w1 at *;have aE:=hw1.size
 go_cut [3] (fun v3 wx=>∃ F:Sfx,v3=.pointer (some ⟨F.G,0,none⟩)∧F.lo=w0.heap.size∧NsI F s p L w wx)
 case first =>
  have CX:∀ X,Ext w1 X->∀ q,X.cell? ⟨w.heap.size,q,none⟩=#[Value.int .i64 s.al,.int .i64 s.st,.slice A n c,.int .i64 p.al,.slice B m d,.slice B' m' d',.int .i64 L][q]?:=fun X hX=>(b1.ext hX).cell;have av:=cY w1;refine uR (fun X=>Ext w1 X) [16] (zv.app [0,1,2,4,5,7,8,9,10,11,12] (zv.two 3 (zv.two 6 (zv.two 13 (zv.of [14,15,16,17]) 14 (zv.of [13,15,16,17])) 14 (zv.of [6,13,15,16,17])) 14 (zv.of [3,6,13,15,16,17]))) ?_;refine uQ ?_;have v:=av.drew;generalize w1.drew=R at *;refine zn (fun K hK=>?_) (fun K hK=>?_)
  ·go_simp;refine (zdG (HS.out _ v) J.out).mono ?_;rintro e I ⟨mv,rfl,O,hmv,E⟩;have hmvw:w.heap.size<=mv:=oH v.size;have o:=v.trans E;refine hK.out _ _ o ?_;refine pT ?_;refine zn (fun K hK=>?_) (fun K hK=>?_)
   ·go_simp;refine (zcv (HP.out _ o) Hp.out).mono ?_;rintro e z ⟨RA,rc,rfl,⟨bt,aa,htb⟩,t⟩;have hbtw:w.heap.size<=bt:=oH o.size;have g:=o.trans t;refine hK.out _ _ g ?_;refine pT ?_;replace hmv:=hmv.ext t;refine zn (fun K hK=>?_) (fun K hK=>?_)
    ·go_simp;refine (zat (diff s.al.toNat L) D _).mono ?_;rintro e u ⟨HA,hc,rfl,hhd,hy13⟩;have hbhd:w.heap.size<=z.heap.size:=oH g.size;have hxw13:=g.trans hy13;refine hK.out _ _ hxw13 ?_;refine pT ?_;replace hmv:=hmv.ext hy13;replace htb:=zh htb hy13;refine ze fun K hK=>?_;go_simp;have hmp0:zeH 249 litP domP (u.alloc (.map #[] 0)) u.heap.size 0 (fun _=>none):=zeH.made u;have h:Ext u (u.alloc (.map #[] 0)):=(cY _).alloc _;obtain⟨x,r⟩:∃ x,Hid (x=u.heap.size):=⟨_,rfl⟩;have hmbge:w.heap.size<=x:=by have:=hxw13.size;have:=r.out;omega
     have f:=hxw13.trans h;rw [← r.out] at hmp0 ⊢;refine hK.out _ _ f ?_;generalize u.alloc (.map #[] 0)=H at *;refine pT ?_;replace hmv:=hmv.ext h;replace htb:=zh htb h;replace hhd:=zh hhd h;refine uQ ?_;refine zb fun K hK=>?_;have zkx:=ns_fin (A:=A) (n:=n) (c:=c) (d:=d) (d':=d') Hs.out Hp.out hL64 HP0.out h0 hhi Htab.out hw1 f hmvw hbhd hmv ⟨bt,hbtw,htb⟩ hhd hmp0 hmbge;exact yE15a5
    ·go_simp;have hmp0:zeH 249 litP domP (z.alloc (.map #[] 0)) z.heap.size 0 (fun _=>none):=zeH.made z;have h:Ext z (z.alloc (.map #[] 0)):=(cY _).alloc _;obtain⟨x,r⟩:∃ x,Hid (x=z.heap.size):=⟨_,rfl⟩;have hmbge:w.heap.size<=x:=by have:=g.size;have:=r.out;omega
     have f:=g.trans h;rw [← r.out] at hmp0 ⊢;refine hK.out _ _ f ?_;generalize z.alloc (.map #[] 0)=H at *;refine pT ?_;replace hmv:=hmv.ext h;replace htb:=zh htb h;refine ze fun K hK=>?_;go_simp;refine (zat (diff s.al.toNat L) D _).mono ?_;rintro e u ⟨HA,hc,rfl,hhd,hy13⟩;have hbhd:w.heap.size<=H.heap.size:=oH f.size;have hxw13:=f.trans hy13;refine hK.out _ _ hxw13 ?_;refine pT ?_;replace hmv:=hmv.ext hy13;replace htb:=zh htb hy13;replace hmp0:=hmp0.ext hy13;refine uQ ?_;refine zb fun K hK=>?_;have zkx:=ns_fin (A:=A) (n:=n) (c:=c) (d:=d) (d':=d') Hs.out Hp.out hL64 HP0.out h0 hhi Htab.out hw1 hxw13 hmvw hbhd hmv ⟨bt,hbtw,htb⟩ hhd hmp0 hmbge;exact yE15a5
   ·go_simp;have hmp0:zeH 249 litP domP (I.alloc (.map #[] 0)) I.heap.size 0 (fun _=>none):=zeH.made I;have h:Ext I (I.alloc (.map #[] 0)):=(cY _).alloc _;obtain⟨x,r⟩:∃ x,Hid (x=I.heap.size):=⟨_,rfl⟩;have hmbge:w.heap.size<=x:=by have:=o.size;have:=r.out;omega
    have f:=o.trans h;rw [← r.out] at hmp0 ⊢;refine hK.out _ _ f ?_;generalize I.alloc (.map #[] 0)=H at *;refine pT ?_;replace hmv:=hmv.ext h;refine ze fun K hK=>?_;go_simp;refine (zcv (HP.out _ f) Hp.out).mono ?_;rintro e z ⟨RA,rc,rfl,⟨bt,aa,htb⟩,t⟩;have hbtw:w.heap.size<=bt:=oH f.size;have g:=f.trans t;refine hK.out _ _ g ?_;refine pT ?_;replace hmv:=hmv.ext t;replace hmp0:=hmp0.ext t;refine ze fun K hK=>?_;go_simp;refine (zat (diff s.al.toNat L) D _).mono ?_;rintro e u ⟨HA,hc,rfl,hhd,hy13⟩;have hbhd:w.heap.size<=z.heap.size:=oH g.size;have hxw13:=g.trans hy13;refine hK.out _ _ hxw13 ?_;refine pT ?_;replace hmv:=hmv.ext hy13;replace hmp0:=hmp0.ext hy13;exact yE15a3
  ·go_simp;have hmp0:zeH 249 litP domP (R.alloc (.map #[] 0)) R.heap.size 0 (fun _=>none):=zeH.made R;have h:Ext R (R.alloc (.map #[] 0)):=(cY _).alloc _;obtain⟨x,r⟩:∃ x,Hid (x=R.heap.size):=⟨_,rfl⟩;have hmbge:w.heap.size<=x:=by have:=v.size;have:=r.out;omega
   have f:=v.trans h;rw [← r.out] at hmp0 ⊢;refine hK.out _ _ f ?_;generalize R.alloc (.map #[] 0)=H at *;refine pT ?_;refine ze fun K hK=>?_;go_simp;refine (zdG (HS.out _ f) J.out).mono ?_;rintro e I ⟨mv,rfl,O,hmv,E⟩;have hmvw:w.heap.size<=mv:=oH f.size;have o:=f.trans E;refine hK.out _ _ o ?_;refine pT ?_;replace hmp0:=hmp0.ext E;refine ze fun K hK=>?_;go_simp;refine (zcv (HP.out _ o) Hp.out).mono ?_;rintro e z ⟨RA,rc,rfl,⟨bt,aa,htb⟩,t⟩;have hbtw:w.heap.size<=bt:=oH o.size;have g:=o.trans t;refine hK.out _ _ g ?_;refine pT ?_;replace hmp0:=hmp0.ext t;replace hmv:=hmv.ext t;refine ze fun K hK=>?_;go_simp;refine (zat (diff s.al.toNat L) D _).mono ?_;rintro e u ⟨HA,hc,rfl,hhd,hy13⟩;have hbhd:w.heap.size<=z.heap.size:=oH g.size;have hxw13:=g.trans hy13;refine hK.out _ _ hxw13 ?_;refine pT ?_;replace hmp0:=hmp0.ext hy13;replace hmv:=hmv.ext hy13;exact yE15a3
 case rest =>
  obtain⟨F,rfl,aq,hN⟩:=hcut;obtain⟨ad,rfl,rfl,rfl,an,Z,ab,ae,aw⟩:=hN;have V:zfj F [] (fun _ _ => -1) 0 (fun _=>none) (.slice none 0 0) (.slice none 0 0) (.slice none 0 0) wc:=by
   refine⟨by rw [ae];exact Frm.refl _ _,Z,World.ownsRow_nil _ _ _ _,World.ownsRow_nil _ _ _ _,World.ownsRow_nil _ _ _ _,ab,NumI.nil,dD _,fun T hT=>by simp at hT⟩
  have M:=za V;have y:=za ad;have S:=za (T00_ws (p:=F.p) oM);clear V ad Z ab ae;go_wp2_with (first
   |(go_at_call 229;refine (sf_close (T0:=T00) y.out M.out S.out).mono ?_;rintro e w2 ⟨U,rfl,hU,Q⟩)
   |(go_at_call 228;refine (sf_add (U:=U) y.out (M.out.ext y.out Q) ⟨hU.1,hU.2.1,fun i q hb=>cl_row Hp.out (fun q i hb=>S.out.row i q hb) ((hU.2.2 i q).1 hb)⟩ dM).mono ?_;rintro e I ⟨j,aH,aQ,k',M',az,ay,aA,rfl,ar,ap,aj,au⟩))
  go_ret;rcases ar with ⟨rfl,rfl⟩|⟨rfl,rfl⟩
  ·simp at ap
  have Y:zbK U 12 (PR F.s F.p F.L []):=by
   rw [PR_nil,← zgd.eq];exact hU
  have hI:SfI F.s F.p F.L ([]++[U]) (fun k l=>if k=([]:List (List Nat)).length then -1 else (fun _ _=>(-1:Int)) k l):=
   ⟨fun T hT=>by
    obtain rfl:T=U:=by simpa using hT
    exact start_ws Y Hp.out oM,⟨U,rfl,Y⟩,fun k l _ _=>.inl (by dsimp only;split<;>rfl)⟩
  refine⟨F,_,rfl,y.out,rfl,rfl,rfl,aq,an,⟨_,_,k',M',az,ay,aA,hI,aj,sM,rfl⟩,(aw.trans Q).frm au.frm (fun q hq hs=>?_)⟩;have:=(M.out.ext y.out Q).low0 y.out hs;omega
end
section
variable {w W:World} {lo hi n c m d m' d' L:Nat} {A B B':Option Addr} {s:Sys} {p:Aut}
theorem ziK (hS:zP w lo hi A n s)(hP:zJ w lo hi B m B' m' p)(hv:zl s=true)(hp:zj p=true)(hL:L<64) :
  Calls Tryz.prog 226 #[.agg #[s.al,s.st,.slice A n c,p.al,.slice B m d,.slice B' m' d',L]] w fun e w'=>e=.returned (.bool true)∧Ext w w':=by
 have h:=za (fun W (hW:Ext w W)=>zak (c:=c) (hS.ext hW));have g:=za (fun W (hW:Ext w W)=>zI _ _ _ _ d _ _ d' _ _ (hP.ext hW));rw [hv] at h;rw [hp] at g;have hal:=za (show (decide ((0:Int)<=L∧(L:Int)<=63))=true by simp;omega);clear hS hP hv hp
 go_enter Tryz.func226,Tryz.ntmps226
 go_upto_region 1 with fail
 generalize U0:w.alloc _=k at *;obtain⟨hw1,i⟩:=gG U0;clear U0;have l:=i.cells;have j:=cY k;go_wp2_with (first
  |(go_at_call 108;refine (h.out _ hw1).mono (mQ fun o a=>?_))
  |(go_at_call 95;refine (g.out _ (hw1.trans a)).mono (mQ fun q f=>?_);have b:=a.trans f)
  |(go_at_call 173;refine (zai _ _).mono ?_;rw [hal.out];rintro e w4 ⟨rfl,rfl⟩))
 go_ret;exact⟨rfl,hw1.trans b⟩
theorem zfp (hS:zP w lo hi A n s)(hP:zJ w lo hi B m B' m' p)(hv:zl s=true)(hp:zj p=true)(hL:L<64) :
  Calls Tryz.prog 150 #[.agg #[.bool false,(0:Int),(),(),s.al,s.st,.slice A n c,p.al,.slice B m d,.slice B' m' d',L]] w fun e w'=>e=.returned (.int .i64 L)∧Ext w w':=by
 have b:=za (fun W (hW:Ext w W)=>ziK (c:=c) (d:=d) (d':=d') (hS.ext hW) (hP.ext hW) hv hp hL);clear hS hP hv hp
 go_enter Tryz.func150,Tryz.ntmps150
 go_upto_region 1 with fail
 generalize U0:w.alloc _=h at *;obtain⟨hw1,f⟩:=gG U0;clear U0;have i:=f.cells;have g:=cY h;go_wp2_with (go_at_call 226;refine (b.out _ hw1).mono (mQ fun j a=>?_))
 go_ret;exact⟨rfl,hw1.trans a⟩
theorem sf_orc {F:Sfx}(hF:ziZ F):zhS F.lo F.L (zx F.s F.p F.L) (SafJ F) 155 (.pointer (some ⟨F.G,0,none⟩)) where
 ok:=SafJ.ok hF
 in_:=fun args W=>kM
 ask:=fun B W S x hJ hB hx hxs=>sf_safe hF hJ hB hx hxs
def RetOr (s:Sys) (p:Aut) (L z:Nat) (w:World) (e:Ending) (w':World):Prop:=
 ∃ (F:Sfx) (S:Nat->Prop),e=.returned (.tuple #[orcV L 155 (.pointer (some ⟨F.G,0,none⟩)),.bool true])∧ziZ F∧F.s=s∧F.p=p∧F.L=L∧F.lo=z∧w.heap.size<=F.b0∧SafJ F 0 w' S∧Ext w w'
theorem SafJ.low0 {F:Sfx}(hF:ziZ F) {B:Nat}  (h:SafJ F B W S) {j:Nat}(hj:S j):F.b0<=j:=by
 obtain⟨b,f,k,M,i,g,l,c,a,d,rfl⟩:=h;exact a.low0 hF hj
theorem ziM (h0:Ext w0 w)(hS:zP w lo hi A n s)(hP:zJ w lo hi B m B' m' p)(hv:zl s=true)(hp:zj p=true)(hL:L<64)(hhi:hi<=w0.heap.size)(hT:Tab w0) :
  Calls Tryz.prog 79 #[.agg #[.bool false,(0:Int),(),(),s.al,s.st,.slice A n c,p.al,.slice B m d,.slice B' m' d',L]] w (RetOr s p L w0.heap.size w):=by
 have V:=za (fun W (hW:Ext w W)=>zfp (c:=c) (d:=d) (d':=d') (hS.ext hW) (hP.ext hW) hv hp hL);have Y:=za (fun W (hW:Ext w W)=>ziN (c:=c) (d:=d) (d':=d') (h0.trans hW) (hS.ext hW) (hP.ext hW) hv hp hL hhi hT);clear hS hP hv hp;have ad:¬ ((L:Int)<0):=oM
 go_enter Tryz.func79,Tryz.ntmps79
 go_upto_region 1 with fail
 generalize U0:(w.alloc _).alloc _=R at *;obtain⟨hw1,Z,b2⟩:=Ext.x2_ U0;have ae:w.heap.size+1<R.heap.size:=by rw [← U0];simp
 clear U0;have U:∀ X,Ext R X->∀ q,X.cell? ⟨w.heap.size,q,none⟩=#[Value.bool false,.int .i64 0,.slice none 0 0,.slice none 0 0,.int .i64 s.al,.int .i64 s.st,.slice A n c,.int .i64 p.al,.slice B m d,.slice B' m' d',.int .i64 L][q]?:=fun X hX=>(Z.ext hX).cell;have af:=cY R;have ab:=h0.size;go_upto_region 99 with (go_at_call 150;refine (V.out _ hw1).mono (mQ fun w2 g=>?_))
 refine (Y.out _ (hw1.trans g)).mono ?_;rintro e x ⟨F,S,rfl,f,o,l,k,b,J,y,Q⟩;have h:=g.trans Q;have a:=b2.ext h;have k2:=a.cell;have f2:=a.frozen;have H:=za f;have HJ:=za y;have E:=za o;have D:=za l;have z:=za k;have j:=za b;have C:=za (show w.heap.size<=F.b0 by have:=g.size;have:=hw1.size;omega);have r:¬ S (w.heap.size+1):=fun hs=>by
  have I:=SafJ.low0 f y hs;have h2:=g.size;omega
 have O:=(dE x (w.heap.size+1) 0 (.int .i64 (L:Int))).trans (dE _ (w.heap.size+1) 1 (.func (.func 155) #[.pointer (some ⟨F.G,0,none⟩)] #[]));have M:=za ((SafJ.ok f).keep y O (fun q _ e=>by have T:q=w.heap.size+1:=e;rw [T,b];exact⟨oM,r⟩));have u:=za ((hw1.trans h).frm O (fun q hq e=>by have T:q=w.heap.size+1:=e;omega));have t:=(a.ab 0 (.int .i64 (L:Int))).ab 1 (.func (.func 155) #[.pointer (some ⟨F.G,0,none⟩)] #[]);have cf:∀ i,((x.setCell ⟨w.heap.size+1,0,none⟩ (.int .i64 (L:Int))).setCell ⟨w.heap.size+1,1,none⟩ (.func (.func 155) #[.pointer (some ⟨F.G,0,none⟩)] #[])).cell? ⟨w.heap.size+1,i,none⟩=#[Value.int .i64 (L:Int),.func (.func 155) #[.pointer (some ⟨F.G,0,none⟩)] #[]][i]?:=fun i=>by
  have:=t.cell i;simpa using this
 have hst:(store ⟨w.heap.size+1,1,none⟩ (.func (.func 155) #[.pointer (some ⟨F.G,0,none⟩)] #[])).run Tryz.prog (x.setCell ⟨w.heap.size+1,0,none⟩ (.int .i64 (L:Int)))=.ok () ((x.setCell ⟨w.heap.size+1,0,none⟩ (.int .i64 (L:Int))).setCell ⟨w.heap.size+1,1,none⟩ (.func (.func 155) #[.pointer (some ⟨F.G,0,none⟩)] #[])):=by
  rw [run_store _ _ _ _ _ rfl];have I:=a.ab 0 (.int .i64 (L:Int));rw [I.cell,I.frozen];rfl
 clear f y o l k b J r O t a U;go_wp2_with fail
 clear k2 f2;generalize (x.setCell ⟨w.heap.size+1,0,none⟩ (.int .i64 (L:Int))).setCell ⟨w.heap.size+1,1,none⟩ (.func (.func 155) #[.pointer (some ⟨F.G,0,none⟩)] #[])=w9 at *;exact bodyPost_ret (v:=.tuple #[orcV L 155 (.pointer (some ⟨F.G,0,none⟩)),.bool true]) (by simp [results,Tryz.results79,go_sem,cf]) rfl ⟨F,S,rfl,H.out,E.out,D.out,z.out,j.out,C.out,M.out,u.out⟩
end
section
variable {w:World} {lo hi n c lo1 hi1 m d m' d' lo2 hi2 k c2:Nat} {A B B' C:Option Addr} {s t:Sys} {p:Aut}
theorem impl_TaskOf (hs:zP w lo hi A n s)(hp:zJ w lo1 hi1 B m B' m' p)(ht:zP w lo2 hi2 C k t)(hif:iface s p t=(L:Int))(hn:n<=1000000) :
  Calls Tryz.prog 169 #[.agg #[s.al,s.st,.slice A n c],.agg #[p.al,.slice B m d,.slice B' m' d'],.agg #[t.al,t.st,.slice C k c2]] w (zjy w s p L):=by
 obtain⟨vs,Z,vt⟩:=zbx (show 0<=iface s p t by omega);have hL:L<64:=by
  rw [zeP vs Z vt] at hif;have h1:=zQ vt;have h2:((s.al.toNat|||p.al.toNat)&&&t.al.toNat)<=t.al.toNat:=Nat.and_le_right;omega
 have J:=za (fun W (hW:Ext w W)=>zcZ (c:=c) (d1:=d) (d1':=d') (c2:=c2) (hs.ext hW) (hp.ext hW) (ht.ext hW));rw [hif] at J;have HK:=za (fun W (hW:Ext w W)=>clone_edge (c:=c) (hs.2.ext hW) oM);have HC:=za (fun W (hW:Ext w W)=>zba (c:=d) (c':=d') (hp.ext hW) (zdg Z));have hV:=za (And.intro vs (And.intro Z hL));have ah:=za hs.1;clear hs hp ht hif vs Z vt;obtain⟨w0,U0⟩:∃ x,Hid ((((w.alloc (.cells #[s.al,s.st,.slice A n c] 38)).alloc (.cells #[p.al,.slice B m d,.slice B' m' d'] 31)).alloc (.cells #[t.al,t.st,.slice C k c2] 38)).alloc (.cells #[(0:Int),(0:Int),(),(0:Int),(),(),(0:Int)] 96)=x):=⟨_,za rfl⟩;have G:Ext w w0:=(((((cY _).alloc _).alloc _).alloc _).alloc _).trans (eP U0.out);obtain⟨b1,b2,b3⟩:=zL (((cY _).alloc (.cells #[(0:Int),(0:Int),(),(0:Int),(),(),(0:Int)] 96)).trans (eP U0.out));have b4:=dU U0.out;simp only [World.size_alloc] at b4;have aG:¬ ((L:Int)<0):=oM
 go_enter Tryz.func169,Tryz.ntmps169
 go_upto_region 1 with fail
 rw [U0.out] at *;have k1:=b1.cell;have k2:=b2.cell;have k3:=b3.cell;go_upto_region 4 with (go_at_call 188;refine (J.out _ G).mono (mQ fun w1 i=>?_))
 have H:=G.trans i;have E:=b1.ext i;have k1:=E.cell;go_upto_region 99 with fail
 refine (HK.out _ H).mono ?_;rintro e w2 ⟨v',rfl,Y,u⟩;obtain⟨g,h,rfl⟩:=zi Y;have l:=E.ext u;have k1:=l.cell;have f1:=l.frozen;have O:=b4.ext (i.trans u);have M:=b2.ext (i.trans u);go_upto_region 5 with fail
 have F:=dE w2 w.heap.size 2 (.slice g n h);have o:Ext w (w2.setCell ⟨w.heap.size,2,none⟩ (.slice g n h)):=(H.trans u).frm F (fun q hq e=>by have e':q=w.heap.size:=e;omega);have ab:Blk (w2.setCell ⟨w.heap.size,2,none⟩ (.slice g n h)) w.heap.size 38 #[.int .i64 s.al,.int .i64 s.st,.slice g n h]:=by simpa using l.ab 2 (.slice g n h)
 have Q:=O.far (p:=⟨w.heap.size,2,none⟩) (by show w.heap.size+1+1+1≠w.heap.size;omega) (.slice g n h);have ad:=M.far (p:=⟨w.heap.size,2,none⟩) (by show w.heap.size+1≠w.heap.size;omega) (.slice g n h);have az:=H.size;have ay:=G.size;have av:=b4.lt;have ax:=i.size;have T:=zg Y F (fun b hb e=>zR Y l dM hb e);clear k1 f1 k2 k3 E l O M F Y;generalize w2.setCell ⟨w.heap.size,2,none⟩ (.slice g n h)=I at *;have C1:∀ X,Ext I X->∀ q,X.cell? ⟨w.heap.size,q,none⟩=#[Value.int .i64 s.al,.int .i64 s.st,.slice g n h][q]?:=fun X hX=>(ab.ext hX).cell;have C2:∀ X,Ext I X->∀ q,X.cell? ⟨w.heap.size+1,q,none⟩=#[Value.int .i64 p.al,.slice B m d,.slice B' m' d'][q]?:=fun X hX=>(ad.ext hX).cell;have V:=cY I;refine uR (fun X=>Ext I X) [5] (zv.of [0,1,3,2,4,5,6]) ?_;refine uQ ?_;refine ze fun K hK=>?_;go_simp;refine (HC.out _ (o.trans V.drew)).mono ?_;rintro e w4 ⟨r,y,d1,a,f,d1',rfl,S,ai⟩;have j:=V.drew.trans ai;refine hK.out _ _ j ?_;refine pT ?_;refine uQ ?_;have bz:=Q.ext j;have kz:=bz.cell;have fz:=bz.frozen;have U:=zh T j;have aw:=bz.lt;have au:=j.size;have aE:=o.size;have D:zP w4 (w.heap.size+1+1+1+1) w4.heap.size g n s:=⟨ah.out,(Reads.af U).more oM (dD _)⟩;have ag:=Q.lt;have aH:I.drew.heap.size=I.heap.size:=rfl;have z:zJ w4 (w.heap.size+1+1+1+1) w4.heap.size r y a f p:=(S.reads).more oM (dD _);have R:Frm (fun k=>k=w.heap.size+1+1+1) w4 (((((((w4.setCell ⟨w.heap.size+1+1+1,0,none⟩ s.al).setCell ⟨w.heap.size+1+1+1,1,none⟩ s.st).setCell ⟨w.heap.size+1+1+1,2,none⟩ (.slice g n h)).setCell ⟨w.heap.size+1+1+1,3,none⟩ p.al).setCell ⟨w.heap.size+1+1+1,4,none⟩ (.slice r y d1)).setCell ⟨w.heap.size+1+1+1,5,none⟩ (.slice a f d1')).setCell ⟨w.heap.size+1+1+1,6,none⟩ L):=
  ((((((dE w4 _ 0 _).trans (dE _ _ 1 _)).trans (dE _ _ 2 _)).trans (dE _ _ 3 _)).trans (dE _ _ 4 _)).trans (dE _ _ 5 _)).trans (dE _ _ 6 _)
 have bW:Blk (((((((w4.setCell ⟨w.heap.size+1+1+1,0,none⟩ s.al).setCell ⟨w.heap.size+1+1+1,1,none⟩ s.st).setCell ⟨w.heap.size+1+1+1,2,none⟩ (.slice g n h)).setCell ⟨w.heap.size+1+1+1,3,none⟩ p.al).setCell ⟨w.heap.size+1+1+1,4,none⟩ (.slice r y d1)).setCell ⟨w.heap.size+1+1+1,5,none⟩ (.slice a f d1')).setCell ⟨w.heap.size+1+1+1,6,none⟩ L) (w.heap.size+1+1+1) 96 #[.int .i64 s.al,.int .i64 s.st,.slice g n h,.int .i64 p.al,.slice r y d1,.slice a f d1',.int .i64 L]:=by
  simpa using ((((((bz.ab 0 (.int .i64 s.al)).ab 1 (.int .i64 s.st)).ab 2 (.slice g n h)).ab 3 (.int .i64 p.al)).ab 4 (.slice r y d1)).ab 5 (.slice a f d1')).ab 6 (.int .i64 L)
 refine zb fun K hK=>?_;go_simp;generalize (((((((w4.setCell ⟨w.heap.size+1+1+1,0,none⟩ s.al).setCell ⟨w.heap.size+1+1+1,1,none⟩ s.st).setCell ⟨w.heap.size+1+1+1,2,none⟩ (.slice g n h)).setCell ⟨w.heap.size+1+1+1,3,none⟩ p.al).setCell ⟨w.heap.size+1+1+1,4,none⟩ (.slice r y d1)).setCell ⟨w.heap.size+1+1+1,5,none⟩ (.slice a f d1')).setCell ⟨w.heap.size+1+1+1,6,none⟩ L)=X at *;have hret:=za (show zjy w s p L (.returned (.tuple #[.agg #[s.al,s.st,.slice g n h,p.al,.slice r y d1,.slice a f d1',L],.bool true])) X from
  ⟨g,n,h,r,y,d1,a,f,d1',rfl,⟨⟨w.heap.size+1+1+1+1,w4.heap.size,D.frm R (fun k h1 h2 e=>oM),z.frm R (fun k h1 h2 e=>oM),R.size⟩,hV.out.1,hV.out.2.1,hV.out.2.2⟩,(o.trans j).frm R (fun k hk e=>oM)⟩)
 have cf:=bW.cell;clear R bW D z kz fz bz U S T;refine hK.out _ _ ?_;clear hK;refine pT ?_;refine uQ ?_;refine zf ?_;go_wp2_with fail
 exact bodyPost_ret (v:=.tuple #[.agg #[s.al,s.st,.slice g n h,p.al,.slice r y d1,.slice a f d1',L],.bool true]) (by simp [results,Tryz.results169,go_sem,cf]) rfl hret.out
end
theorem noA_own (W:World) (base:Nat):zac W base none 0 0 none 0 0 noA:=⟨⟨[],World.ownsRow_nil _ _ _ _,zH.nil _ _⟩,rfl,World.ownsRow_nil _ _ _ _,rfl⟩
section
variable {w:World} {lo1 hi1 lo2 hi2 k c2 k1 d1 k1' d1':Nat} {C X X':Option Addr} {t:Sys} {a:Aut}
theorem zfN (ht:zP w lo2 hi2 C k t)(ha:zJ w lo1 hi1 X k1 X' k1' a)(hT:Tab w) :
  Calls Tryz.prog 170 #[.agg #[t.al,t.st,.slice C k c2],.agg #[a.al,.slice X k1 d1,.slice X' k1' d1']] w fun e w'=>e=.returned (.tuple #[.string (zau [t] a),.bool (zbL [t] a)])∧Ext w w':=by
 have n:=za (fun W (hW:Ext w W)=>ht.ext hW);have j:=za (fun W (hW:Ext w W)=>ha.ext hW);have l:=za (fun W (hW:Ext w W)=>hT.ext hW);clear ht ha hT
 go_enter Tryz.func170,Tryz.ntmps170
 go_upto_region 1 with fail
 generalize U0:(w.alloc _).alloc _=i at *;obtain⟨d,o,p⟩:=Ext.x2_ U0;clear U0;have u:=o.cell;have b:=(cY i).alloc (.cells #[t.al,t.st,.slice C k c2] 38);have h:=dV i 38 #[t.al,t.st,.slice C k c2];obtain⟨s,r,f⟩:=zjq h (n.out _ (d.trans b));have q:=(p.ext b).cell;have m:=za (zcd (c:=1) (d2:=d1) (d2':=d1') f (j.out _ (d.trans b)) (l.out _ (d.trans b)));clear f h;go_wp2_with fail
 refine m.out.mono (mQ fun v g=>?_);go_wp2_with fail
 go_ret2;exact⟨rfl,(d.trans b).trans g⟩
end
section
variable {w:World} {lo hi n c lo1 hi1 m d m' d' lo2 hi2 k c2:Nat} {A B B' C:Option Addr} {s t:Sys} {p:Aut}
theorem zhV {P:Program} (w:World) (d:Nat) (t:TypeId) {ps rs:Array TypeId} (h:P.underlying t=some (.func ps rs v)):(Op.equalIn (d+1) t .nilFunc .nilFunc).run P w=.ok true w:=by
 simp [Op.equalIn,run_underlying h]
@[go_sem] theorem neq_nilFunc {P:Program} (w:World) (t:TypeId) {ps rs:Array TypeId}  (h:P.underlying t=some (.func ps rs v)):(binOp .neq t .nilFunc .nilFunc).run P w=.ok (.bool false) w:=by
 simp only [binOp];simp [show (Op.equal t .nilFunc .nilFunc).run P w=.ok true w from zhV w 9999 t h]
@[go_sem] theorem neq_nilFuncP (w:World):(binOp .neq 195 .nilFunc .nilFunc).run Tryz.prog w=.ok (.bool false) w:=neq_nilFunc w _ rfl
theorem store_func (kn:Nat) (rc:Value) (X:World) (g:Nat)(h1:(X.cell? ⟨g,1,none⟩).isSome=true)(h2:X.frozen? ⟨g,1,none⟩=false):(store ⟨g,1,none⟩ (.func (.func kn) #[rc] #[])).run Tryz.prog X=.ok () (X.setCell ⟨g,1,none⟩ (.func (.func kn) #[rc] #[])):=by
 rw [run_store _ _ _ _ _ rfl];obtain⟨u,a⟩:=Option.isSome_iff_exists.1 h1;rw [a,h2];rfl
theorem vd_fin {a0 a1 a2 a3 a4 a5:Value}(hx:Ext w W)(hb:Blk W Z 67 #[a0,a1,a2,a3,a4,a5])(hZ:w.heap.size<=Z) (u0 u1 u2 u3 u4 u5:Value) :
  Blk ((((((W.setCell Z u0).setCell ⟨Z,1,none⟩ u1).setCell ⟨Z,2,none⟩ u2).setCell ⟨Z,3,none⟩ u3).setCell ⟨Z,4,none⟩ u4).setCell ⟨Z,5,none⟩ u5) Z 67 #[u0,u1,u2,u3,u4,u5] ∧
  Frm (fun k=>k=Z) W ((((((W.setCell Z u0).setCell ⟨Z,1,none⟩ u1).setCell ⟨Z,2,none⟩ u2).setCell ⟨Z,3,none⟩ u3).setCell ⟨Z,4,none⟩ u4).setCell ⟨Z,5,none⟩ u5) ∧
  Ext w ((((((W.setCell Z u0).setCell ⟨Z,1,none⟩ u1).setCell ⟨Z,2,none⟩ u2).setCell ⟨Z,3,none⟩ u3).setCell ⟨Z,4,none⟩ u4).setCell ⟨Z,5,none⟩ u5):=by
 have a:=zim W Z u0 u1 u2 u3 u4 u5;exact⟨by simpa using (((((hb.ab 0 u0).ab 1 u1).ab 2 u2).ab 3 u3).ab 4 u4).ab 5 u5,a,hx.frm a (fun q hq e=>by have b:q=Z:=e;omega)⟩
def TabV3 (W:World) (S:Nat->Prop) (base g:Nat) (o:Option (List ByteArray × List ByteArray)):Prop:=
 ¬ S g∧((o=none∧∃ u v,Blk W g 101 #[u,v])∨∃ (rs cs:List ByteArray) (R C:Option Addr) (cr cc:Nat),o=some (rs,cs)∧Blk W g 101 #[.slice R rs.length cr,.slice C cs.length cc]∧zhD W S base R rs.length cr C cs.length cc rs cs)
theorem zjv {base' cr2 cc2:Nat} {R2 C2:Option Addr} {u v:Value} {rs2 cs2:List ByteArray}(hb:Blk W g 101 #[u,v])(hg:¬ S g)(ht:zhD W S base' R2 rs2.length cr2 C2 cs2.length cc2 rs2 cs2)(h1:base<=base')(h2:g<base') :
  TabV3 ((W.setCell g (.slice R2 rs2.length cr2)).setCell ⟨g,1,none⟩ (.slice C2 cs2.length cc2)) S base g (some (rs2,cs2)):=by
 have i:=(ht.r.frm (dE W g 0 (.slice R2 rs2.length cr2)) (fun b hb e=>by have:=(ht.r.own.lt b hb).1;have f:b=g:=e;omega));have h:=(ht.c.frm (dE W g 0 (.slice R2 rs2.length cr2)) (fun b hb e=>by have:=(ht.c.own.lt b hb).1;have f:b=g:=e;omega));have d:=(i.frm (dE _ g 1 (.slice C2 cs2.length cc2)) (fun b hb e=>by have:=(i.own.lt b hb).1;have f:b=g:=e;omega));have a:=(h.frm (dE _ g 1 (.slice C2 cs2.length cc2)) (fun b hb e=>by have:=(h.own.lt b hb).1;have f:b=g:=e;omega));exact⟨hg,.inr ⟨rs2,cs2,R2,C2,cr2,cc2,rfl,by simpa using (hb.ab 0 (.slice R2 rs2.length cr2)).ab 1 (.slice C2 cs2.length cc2),⟨⟨zq d.own h1,d.far⟩,⟨zq a.own h1,a.far⟩⟩⟩⟩
theorem zia (hs:zP w lo hi A n s)(hp:zJ w lo1 hi1 B m B' m' p)(ht:zP w lo2 hi2 C k t)(hif:iface s p t=(L:Int))(hn:n<=1000000)(hT:Tab w) :
  Calls Tryz.prog 91 #[.agg #[s.al,s.st,.slice A n c],.agg #[t.al,t.st,.slice C k c2],.agg #[p.al,.slice B m d,.slice B' m' d'],.nilFunc] w (zhn w (vpT s t p)):=by
 obtain⟨vs,vp,vt⟩:=zbx (show 0<=iface s p t by omega);have cj:=za (fun W (hW:Ext w W)=>impl_TaskOf (c:=c) (d:=d) (d':=d') (c2:=c2) (hs.ext hW) (hp.ext hW) (ht.ext hW) hif hn);have HS:=za (fun W (hW:Ext w W)=>hs.ext hW);have HP:=za (fun W (hW:Ext w W)=>hp.ext hW);have ck:=za (fun W (hW:Ext w W)=>ht.ext hW);have ci:=za (fun W (hW:Ext w W)=>show Calls Tryz.prog 49 #[.slice (some W.heap.size) 2 2,.agg #[p.al,.slice B m d,.slice B' m' d']] (W.alloc (.cells #[s.al,s.st,.slice A n c,t.al,t.st,.slice C k c2] 38)) (fun e w'=>e=.returned (.tuple #[.string (zau [s,t] p),.bool (zbL [s,t] p)])∧Ext W w') from by
  have f6:=(cY W).alloc (.cells #[s.al,s.st,.slice A n c,t.al,t.st,.slice C k c2] 38);obtain⟨l1,l2,cG⟩:=sl_pair (dV W 38 #[s.al,s.st,.slice A n c,t.al,t.st,.slice C k c2]) (hs.ext (hW.trans f6)) (ht.ext (hW.trans f6));exact (zcd cG (hp.ext (hW.trans f6)) (hT.ext (hW.trans f6))).mono (fun e w' h=>⟨h.1,f6.trans h.2⟩))
 have cI:=za (zgZ hif);have Htab:=za hT;clear hs hp ht hT
 go_enter Tryz.func91,Tryz.ntmps91
 go_upto_region 1 with fail
 obtain⟨w1,U0⟩:∃ x,Hid ((((w.alloc (.cells #[s.al,s.st,.slice A n c] 38)).alloc (.cells #[t.al,t.st,.slice C k c2] 38)).alloc (.cells #[p.al,.slice B m d,.slice B' m' d'] 31)).alloc (.cells #[(0:Int),(0:Int),(),(),.string ⟨#[]⟩,(0:Int)] 67)=x):=⟨_,za rfl⟩;obtain⟨b4,b5,b6⟩:=zL (((cY _).alloc (.cells #[(0:Int),(0:Int),(),(),.string ⟨#[]⟩,(0:Int)] 67)).trans (eP U0.out));have b8:=dU U0.out;simp only [World.size_alloc] at b8;have aN:Ext w w1:=(((((cY _).alloc _).alloc _).alloc _).alloc _).trans (eP U0.out);rw [U0.out] at *;have k4:=b4.cell;have k5:=b5.cell;have k6:=b6.cell;go_upto_region 4 with (go_at_call 169;refine (cj.out _ aN).mono ?_;rintro e w2 ⟨A1,n1,c1,B1,m1,d1,bo,bX,d1',rfl,cB,aW⟩)
 have aR:=cB.ext ((cY w2).alloc (.cells #[s.al,s.st,.slice A1 n1 c1,p.al,.slice B1 m1 d1,.slice bo bX d1',L] 96));have M:=aW.trans ((cY w2).alloc (.cells #[s.al,s.st,.slice A1 n1 c1,p.al,.slice B1 m1 d1,.slice bo bX d1',L] 96));generalize U0:w2.alloc _=w3 at *;have b9:=dU U0;clear U0;have k9:=b9.cell;obtain⟨dz,dw,cF,cE,cC⟩:=aR.at_;have hL:=aR.lt;have bQ:=za (ziM (c:=c1) (d:=d1) (d':=d1') (cY w3) cF cE vs vp hL cC (Htab.out.ext (aN.trans M)));have bR:=store_func (155);go_upto_region 5 with (go_at_call 79;refine bQ.out.mono ?_;rintro e w4 ⟨F,S0,rfl,cD,cz,cy,cx,bC,du,hJ,aX⟩)
 have S:=za (show zhS w3.heap.size L (zx s p L) (SafJ F) 155 (.pointer (some ⟨F.G,0,none⟩)) by
  have:=sf_orc cD;rwa [cz,cy,cx,bC] at this)
 have ag:=za (fun (q:Nat) (hq:w4.heap.size<=q)=>zci.fresh S.out.ok hJ hq);generalize U0:w4.alloc _=w5 at *;obtain⟨ay,a1⟩:=gG U0;have bK:=S.out.ok.keep hJ ay (fun _ _ h=>h.elim);have O:=aX.trans ay;clear U0;have ae:=a1.cell;have bO:=za (or_newTable S.out bK oM O.size hL);have de:=aX.size;go_upto_region 99 with fail
 refine bO.out.mono ?_;rintro e w6 ⟨S6,aJ,U⟩;rcases U with ⟨bN,rfl⟩|⟨bi,a2,R0,C0,bz,bx,bP,rfl,bF⟩
 ·obtain⟨r,hr⟩:=newT_some L (zx s p L);rw [hr] at bN;cases bN
 obtain⟨w7,U0⟩:∃ x,Hid (w6.alloc (.cells #[.slice R0 bi.length bz,.slice C0 a2.length bx] 101)=x):=⟨_,za rfl⟩;have i:=dU U0.out;have aY:Ext w6 w7:=((cY _).alloc _).trans (eP U0.out);obtain⟨a5,l⟩:∃ g,Hid (g=w6.heap.size):=⟨_,za rfl⟩;have bE:=za (fun (q:Nat) (hq:w6.heap.size<=q)=>zci.fresh S.out.ok aJ.j hq);go_upto_region 6 with fail
 rw [← l.out] at i ⊢;rw [U0.out] at *;have u:=za (show ∀ q:Nat,S0 q->w3.heap.size<=q from fun q h=>by have:=S.out.ok.low bK q h;omega);have bL:=za ((aJ.ext S.out.ok aY).more S.out.ok (show 0+21840<=21840+30000*0 by omega));obtain⟨o0,aL⟩:∃ o0:Option (List ByteArray × List ByteArray),Hid ((zav L (zx s p L) [⟨#[]⟩] 11 [⟨#[]⟩]).map (fun r=>(r,[(⟨#[]⟩:ByteArray)]))=o0):=⟨_,za rfl⟩;have aw:o0=some (bi,a2):=aL.out.symm.trans bP;have aS:=za (show LnOk L (zx s p L) 0 o0 by rw [← aL.out];exact LnOk.start L (zx s p L));have aT:=za (show runT s t p L (12 - 0) 0 o0=vpT s t p by rw [cI.out,← aL.out]);have aU:o0.isSome=true:=by rw [aw];rfl
 have aV:=za (show TabV3 w7 S6 w5.heap.size a5 o0 from ⟨bE.out a5 (oH l.out),.inr ⟨bi,a2,R0,C0,bz,bx,aw,i,bF.ext aY⟩⟩);have dc:=aW.size;have dd:=M.size;have df:=ay.size;have dg:=aJ.size;have c5:=b4.lt;have c6:=b8.lt;have c7:=b9.lt;have B4:=za ((b4.ext M).ext O);have B5:=za ((b5.ext M).ext O);have B6:=za ((b6.ext M).ext O);have B8:=za ((b8.ext M).ext O);have B9:=za (b9.ext O);have aF:=za a1;have dv:w.heap.size<=w5.heap.size:=(aN.trans (M.trans O)).size;have aA:=za (aN.trans (M.trans O));clear k4 k5 k6 k9 ae b4 b5 b6 b8 b9 a1 bF i aJ bO bQ bR bP;go_wp2_with fail
 go_loopw [10,14,15,16,17,18,19,20] (fun v10 v14 _ _ _ _ _ _ wr=>∃ (r:Nat) (o:Option (List ByteArray × List ByteArray)) (S1:Nat->Prop),v10=.bool o.isSome∧v14=.int .i64 ((r:Int)+1)∧r<=12∧Hid (Kp (SafJ F) (21840+30000*r) S0 w5 wr S1)∧Hid (TabV3 wr S1 w5.heap.size a5 o)∧Hid (LnOk L (zx s p L) r o)∧Hid (runT s t p L (12 - r) r o=vpT s t p)) (fun _ v14 _ _ _ _ _ _ _=>14 - (intOf v14).toNat)
 case atStart=>exact⟨0,o0,S6,by rw [aU],rfl,dF _,bL,aV,aS,aT⟩
 case round =>
  clear bL aV aS aT aU aw aL;obtain⟨r,o,S1,rfl,rfl,hr,am,bS,aK,ba⟩:=hrel;have T:=am.out.blk B8.out (fun h=>by have:=u.out _ h;omega);cases o with
  |none =>
   have hv:=za (show vpT s t p=⟨2,noA,⟨#[]⟩,r⟩ by
    rw [← ba.out];cases h12:12 - r with
    |zero=>rfl
    |succ f=>rfl)
   have k8:=T.1.cell;have f8:=T.1.frozen;go_wp2_with fail
   have cJ:Ext w wr:=aA.out.frm am.out.frm (fun q hq hs=>by have:=u.out q hs;omega);have zkx:=vd_fin cJ T.1 oM (.int .i64 2) (.int .i64 0) (.slice none 0 0) (.slice none 0 0) (.string ⟨#[]⟩) (.int .i64 r);have cf:=zkx.1.cell;have Hx:=za zkx.2.2;clear zkx k8 f8 T;generalize ((((((wr.setCell ⟨w.heap.size+1+1+1,0,none⟩ (2:Int)).setCell ⟨w.heap.size+1+1+1,1,none⟩ (0:Int)).setCell ⟨w.heap.size+1+1+1,2,none⟩ ()).setCell ⟨w.heap.size+1+1+1,3,none⟩ ()).setCell ⟨w.heap.size+1+1+1,4,none⟩ (.string ⟨#[]⟩)).setCell ⟨w.heap.size+1+1+1,5,none⟩ r)=X at *;exact bodyPost_ret (v:=.agg #[(2:Int),(0:Int),(),(),.string ⟨#[]⟩,r]) (by simp [results,Tryz.results91,go_sem,cf]) rfl (by
    rw [hv.out];exact⟨none,0,0,none,0,0,rfl,noA_own _ _,Hx.out⟩)
  |some tab =>
   obtain⟨rs,cs⟩:=tab;obtain⟨bJ,cA⟩:=bS.out;rcases cA with ⟨h0,_⟩|⟨dA,ds,R,C1,cr,cc,h0,a7,bd⟩
   ·cases h0
   obtain⟨rfl,rfl⟩:=Prod.mk.inj (Option.some.inj h0);obtain⟨hI,aH⟩:=aK.out.tab rs cs rfl;have c8:w5.heap.size<=wr.heap.size:=am.out.size;have a6:=za (zhd S.out am.out.j oM bd hI aH oM hL);have be:=za (zcE hI aH hL);obtain⟨a,bG⟩:∃ a,Hid (zeq L (zx s p L) rs cs=a):=⟨_,za rfl⟩;rw [bG.out] at a6 be;have k8:=T.1.cell;have f8:=T.1.frozen;have ar:=am.out.blk aF.out (ag.out _ (dD _));have ae:=ar.1.cell;have aD:=a7.cell;have bq:=za bd;have a0:=za a7;clear bS bd a7 h0;go_upto_region 11 with (go_at_call 81;refine a6.out.mono ?_;rintro e w8 ⟨S2,AA,aE,an,ac,ap,ai,rfl,bB,ak⟩)
   have a8:=am.out.trans ak;have hg9:=za (ak.out a0.out.lt bJ);have c4:=za (fun (q:Nat) (hq:w8.heap.size<=q)=>zci.fresh S.out.ok a8.j hq);have c9:=ak.size;generalize U0:w8.alloc _=w9 at *;obtain⟨Q,au⟩:=gG U0;have ad:=za (a8.ext S.out.ok Q);have aq:=za (bB.ext Q);have aP:=za ((ak.blk a0.out bJ).1.ext Q);have aQ:=za ((bq.out.kp ak).ext Q);clear U0;have Z:=za (show Ext w w9 from ad.out.toExt aA.out (fun q hs=>by have:=u.out q hs;omega));have cl:=za (zds (c:=c) (d1:=ac) (d1':=ai) (d2:=d) (d2':=d') (HS.out _ Z.out) aq.out.own_.reads (HP.out _ Z.out) (Htab.out.ext Z.out));have cg:=za (fun W (hW:Ext w9 W)=>zfN (c2:=c2) (k1:=an) (d1:=ac) (k1':=ap) (d1':=ai) (ck.out _ (Z.out.trans hW)) (aq.out.own_.reads.ext hW) (Htab.out.ext (Z.out.trans hW)));have k4:=(ad.out.blk B4.out (fun h=>by have:=u.out _ h;omega)).1.cell;have k6:=(ad.out.blk B6.out (fun h=>by have:=u.out _ h;omega)).1.cell;have dy:=au.cell;have bp:=za (ad.out.blk B9.out (fun h=>by have:=u.out _ h;omega)).1;clear a6 bB ak a8 bq a0 k8 f8 T ae aD ar;go_upto_region 14 with (go_at_call 82;refine cl.out.mono (mQ fun cN Y=>?_))
   have db:r<12:=by have:=aK.out.more rs cs rfl;have:=hI.r12;omega
   have ah:=za (show (if (zbz s p t L a).2=0 then (⟨0,a,⟨#[]⟩,r+1⟩:Vd) else if (zbz s p t L a).2=1 then ⟨1,noA,zau [s,t] p,r+1⟩ else runT s t p L (11 - r) (r+1) (zbB L (zx s p L) rs cs (zbz s p t L a).1))=vpT s t p by
    rw [← ba.out,show 12 - r=(11 - r)+1 by omega,runT,bG.out])
   clear ba;have bg:=za (zfY vs be.out vp);have bf:=za (zdp (ss:=[t]) (p:=a) (by unfold zB;simp [vt]) be.out);have bI:=ad.out.blk B8.out (fun h=>by have:=u.out _ h;omega);have cX:=za (Z.out.trans Y);cases hub:zcA s a p with
   |false =>
    have k5:=((ad.out.blk B5.out (fun h=>by have:=u.out _ h;omega)).1.ext Y).cell;have bw:=(au.ext Y).cell;go_upto_region 17 with (go_at_call 170;refine (cg.out _ Y).mono (mQ fun bY bU=>?_))
    have I:=Y.trans bU;have dt:=(au.ext I).cell;cases hbb:zbL [t] a with
    |false =>
     have hv:=za (show vpT s t p=⟨0,a,⟨#[]⟩,r+1⟩ by
      rw [← ah.out];have hj:zbz s p t L a=(⟨#[]⟩,0):=by unfold zbz;rw [if_neg (by simp [hub]),if_neg (by simp [hbb])]
      rw [hj,if_pos rfl])
     have E:=bI.1.ext I;have k8:=E.cell;have f8:=E.frozen;clear bw;go_wp2_with fail
     have zkx:=vd_fin (Z.out.trans I) E oM (.int .i64 0) (.int .i64 a.al) (.slice AA an ac) (.slice aE ap ai) (.string ⟨#[]⟩) (.int .i64 ((r:Int)+1));have cf:=zkx.1.cell;have Hx:=za zkx.2.2;have Ho:=za (((aq.out.own_.ext I).keep zkx.2.1 (fun b hb e=>by have e':b=w.heap.size+1+1+1:=e;omega)).less (show w.heap.size<=wr.heap.size by omega));clear zkx k8 f8 E;generalize ((((((bY.setCell ⟨w.heap.size+1+1+1,0,none⟩ (0:Int)).setCell ⟨w.heap.size+1+1+1,1,none⟩ a.al).setCell ⟨w.heap.size+1+1+1,2,none⟩ (.slice AA an ac)).setCell ⟨w.heap.size+1+1+1,3,none⟩ (.slice aE ap ai)).setCell ⟨w.heap.size+1+1+1,4,none⟩ (.string ⟨#[]⟩)).setCell ⟨w.heap.size+1+1+1,5,none⟩ (.int .i64 ((r:Int)+1)))=X at *;exact bodyPost_ret (v:=.agg #[(0:Int),a.al,.slice AA an ac,.slice aE ap ai,.string ⟨#[]⟩,((r:Int)+1:Int)]) (by simp [results,Tryz.results91,go_sem,cf]) rfl (by
      rw [hv.out];exact⟨AA,an,ac,aE,ap,ai,sM,Ho.out,Hx.out⟩)
    |true =>
     have aj:=za (show zbz s p t L a=(zaY (zau [t] a) L,if zx s p L (zaY (zau [t] a) L)=true then -1 else 1) by unfold zbz;rw [if_neg (by simp [hub]),if_pos hbb]);have aB:=zdN bf.out.1 L;have aC:(zaY (zau [t] a) L).size<=4000:=by have:=zef (zau [t] a) L;have:=bf.out.2;simp only [fX,List.length_nil] at this;omega
     have ax:=za (zdl (s:=zau [t] a) (a:=L) (w:=bY) bf.out.1 oM);have k9:=(bp.out.ext I).cell;obtain⟨z,hz⟩:∃ z,Hid (zaY (zau [t] a) L=z):=⟨_,za rfl⟩;rw [hz.out] at aB aC aj ax;have aG:=za aB;clear bw;go_upto_region 20 with (go_at_call 83;refine ax.out.mono (mQ fun bZ af=>?_))
     have y:=I.trans af;have V:=za (ad.out.ext S.out.ok y);have bH:=za (S.out.ask _ bZ S2 z V.out.j oM aG.out oM);have ae:=(V.out.blk aF.out (ag.out _ (dD _))).1.cell;clear k9;go_upto_region 99 with fail
     refine bH.out.mono ?_;rintro e aO ⟨S4,rfl,aI⟩;have J:=za (V.out.trans aI);have az:=za (show Ext w aO from J.out.toExt aA.out (fun q hs=>by have:=u.out q hs;omega));have i:=aI.blk (aP.out.ext y) hg9.out;have cm:=za ((aQ.out.ext y).kp aI);have cH:=aI.size;cases hsf:zx s p L z with
     |false =>
      have hv:=za (show vpT s t p=⟨1,noA,zau [s,t] p,r+1⟩ by
       rw [← ah.out,aj.out,if_neg (show ¬ zx s p L z=true by rw [hsf];decide),if_neg (show ¬ ((1:Int)=0) by decide),if_pos (show (1:Int)=1 from rfl)])
      have HP:=za (ci.out aO az.out);have k4:=(J.out.blk B4.out (fun h=>by have:=u.out _ h;omega)).1.cell;have k5:=(J.out.blk B5.out (fun h=>by have:=u.out _ h;omega)).1.cell;have bu:=(J.out.blk B6.out (fun h=>by have:=u.out _ h;omega)).1;have k6:∀ (v:Array Value) (q:Nat),(aO.alloc (.cells v 38)).cell? ⟨w.heap.size+1+1,q,none⟩=_:=fun v q=>(bu.ext ((cY aO).alloc (.cells v 38))).cell q;have cq:=(J.out.blk B8.out (fun h=>by have:=u.out _ h;omega)).1;clear ae;go_upto_region 99 with fail
      refine HP.out.mono (mQ fun wF bV=>?_);have E:=cq.ext bV;have k8:=E.cell;have f8:=E.frozen;clear k4 k5 k6 bu;go_wp2_with fail
      have zkx:=vd_fin (az.out.trans bV) E oM (.int .i64 1) (.int .i64 0) (.slice none 0 0) (.slice none 0 0) (.string (zau [s,t] p)) (.int .i64 ((r:Int)+1));have cf:=zkx.1.cell;have Hx:=za zkx.2.2;clear zkx k8 f8 E;generalize (((((wF.setCell ⟨w.heap.size+1+1+1,0,none⟩ (1:Int)).setCell ⟨w.heap.size+1+1+1,1,none⟩ (0:Int)).setCell ⟨w.heap.size+1+1+1,2,none⟩ ()).setCell ⟨w.heap.size+1+1+1,3,none⟩ ()).setCell ⟨w.heap.size+1+1+1,4,none⟩ (.string (zau [s,t] p))).setCell ⟨w.heap.size+1+1+1,5,none⟩ (.int .i64 ((r:Int)+1))=X at *;exact bodyPost_ret (v:=.agg #[(1:Int),(0:Int),(),(),.string (zau [s,t] p),((r:Int)+1:Int)]) (by simp [results,Tryz.results91,go_sem,cf]) rfl (by
       rw [hv.out];exact⟨none,0,0,none,0,0,by simp [noA],noA_own _ _,Hx.out⟩)
     |true =>
      have cL:=(J.out.blk aF.out (ag.out _ (dD _))).1.cell;have aD:=i.1.cell;have a9:=za (zhe (x:=z) S.out J.out.j oM cm.out hI aH (by have:=y.size;have:=Q.size;omega) hL aG.out aC);clear ae;go_upto_region 99 with fail
      refine a9.out.mono ?_;rintro e cO ⟨S3,av,U⟩;have ab:=za ((J.out.trans av).more S.out.ok (show 21840+30000*r+1692+1+27840<=21840+30000*(r+1) by omega));have aa:=za (show runT s t p L (12 - (r+1)) (r+1) (zbB L (zx s p L) rs cs z)=vpT s t p by
       rw [← ah.out,aj.out,if_pos hsf,if_neg (show ¬ ((-1:Int)=0) by decide),if_neg (show ¬ ((-1:Int)=1) by decide),show 12 - (r+1)=11 - r by omega])
      have H:=za (aK.out.aw z);have D:=av.blk i.1 i.2;have cM:=D.1.cell;have cw:=D.1.frozen;have bM:=i.1.lt;clear aD cL;rcases U with ⟨hn,rfl⟩|⟨bj,a3,R2,C2,cv,cu,hn,rfl,bb⟩
      ·rw [hn] at H aa;go_wp2_with fail
       go_roundw
       case rel=>exact⟨r+1,none,S3,rfl,gM,oM,za ((ab.out.cell S.out.ok (oH l.out) (oH l.out) D.2 0 _).cell S.out.ok (oH l.out) (oH l.out) D.2 1 _),za ⟨D.2,.inl ⟨rfl,_,_,(D.1.ab 0 _).ab 1 _⟩⟩,H,aa⟩
       case measure=>simp [intOf];omega
      ·rw [hn] at H aa;have bc:=za (zjv (base:=w5.heap.size) D.1 D.2 bb (by have:=y.size;have:=Q.size;omega) bM);go_wp2_with fail
       go_roundw
       case rel=>exact⟨r+1,some (bj,a3),S3,rfl,gM,oM,za ((ab.out.cell S.out.ok (oH l.out) (oH l.out) D.2 0 _).cell S.out.ok (oH l.out) (oH l.out) D.2 1 _),bc,H,aa⟩
       case measure=>simp [intOf];omega
   |true =>
    have aj:=za (show zbz s p t L a=(zaY (zbG s a p) L,-1) by unfold zbz;rw [if_pos hub]);have aB:=zdN bg.out.1 L;have aC:(zaY (zbG s a p) L).size<=4000:=by have:=zef (zbG s a p) L;have:=bg.out.2;omega
    have ax:=za (zdl (s:=zbG s a p) (a:=L) (w:=cN) bg.out.1 oM);have k9:=(bp.out.ext Y).cell;obtain⟨z,hz⟩:∃ z,Hid (zaY (zbG s a p) L=z):=⟨_,za rfl⟩;rw [hz.out] at aB aC aj ax;have aG:=za aB;go_upto_region 20 with (go_at_call 83;refine ax.out.mono (mQ fun bZ af=>?_))
    have y:=Y.trans af;have V:=za (ad.out.ext S.out.ok y);have a9:=za (zhe (x:=z) S.out V.out.j oM (aQ.out.ext y) hI aH (by have:=y.size;have:=Q.size;omega) hL aG.out aC);have ae:=(V.out.blk aF.out (ag.out _ (dD _))).1.cell;have ao:=za (aP.out.ext y);have aD:=ao.out.cell;go_upto_region 99 with fail
    refine a9.out.mono ?_;rintro e cO ⟨S3,av,U⟩;have ab:=za ((V.out.trans av).more S.out.ok (show 21840+30000*r+1692+27840<=21840+30000*(r+1) by omega));have aa:=za (show runT s t p L (12 - (r+1)) (r+1) (zbB L (zx s p L) rs cs z)=vpT s t p by
     rw [← ah.out,aj.out,if_neg (show ¬ ((-1:Int)=0) by decide),if_neg (show ¬ ((-1:Int)=1) by decide),show 12 - (r+1)=11 - r by omega])
    have H:=za (aK.out.aw z);have i:=av.blk ao.out hg9.out;have cM:=i.1.cell;have cw:=i.1.frozen;clear aD ae k9;rcases U with ⟨hn,rfl⟩|⟨bj,a3,R2,C2,cv,cu,hn,rfl,bb⟩
    ·rw [hn] at H aa;go_wp2_with fail
     go_roundw
     case rel=>exact⟨r+1,none,S3,rfl,gM,oM,za ((ab.out.cell S.out.ok (oH l.out) (oH l.out) i.2 0 _).cell S.out.ok (oH l.out) (oH l.out) i.2 1 _),za ⟨i.2,.inl ⟨rfl,_,_,(i.1.ab 0 _).ab 1 _⟩⟩,H,aa⟩
     case measure=>simp [intOf];omega
    ·rw [hn] at H aa;have bc:=za (zjv (base:=w5.heap.size) i.1 i.2 bb (by have:=y.size;have:=Q.size;omega) (oH ao.out.lt));go_wp2_with fail
     go_roundw
     case rel=>exact⟨r+1,some (bj,a3),S3,rfl,gM,oM,za ((ab.out.cell S.out.ok (oH l.out) (oH l.out) i.2 0 _).cell S.out.ok (oH l.out) (oH l.out) i.2 1 _),bc,H,aa⟩
     case measure=>simp [intOf];omega
end
theorem vpT_cert (s t:Sys) (p:Aut):((vpT s t p).code=0->zE true (vpT s t p).asm (vpT s t p).tr=true)∧((vpT s t p).code=1->zE false (vpT s t p).asm (vpT s t p).tr=true):=by
 rcases zbm s t p with h|⟨L,h⟩
 ·rw [zfb h];exact⟨(fun h=>by cases h),(fun h=>by cases h)⟩
 ·have a:=vpT_ok h;obtain⟨b,c,d⟩:=zbx (s:=s) (p:=p) (t:=t) oM;refine⟨fun h0=>?_,fun h1=>?_⟩
  ·rw [a.quiet oM];unfold zE;rw [if_pos rfl,(a.holds h0).1];rw [ByteArray.toList,ByteArray.toList.loop,if_neg dM];rfl
  ·rw [a.none_ oM];unfold zE;rw [if_neg dM,vpT_word b d c];rfl
section
variable {w:World} {lo hi n c lo1 hi1 m d m' d' lo2 hi2 k c2:Nat} {A B B' C:Option Addr} {s t:Sys} {p:Aut}
theorem impl_TaskOf0 (hs:zP w lo hi A n s)(hp:zJ w lo1 hi1 B m B' m' p)(ht:zP w lo2 hi2 C k t)(hif:iface s p t = -1) :
  Calls Tryz.prog 169 #[.agg #[s.al,s.st,.slice A n c],.agg #[p.al,.slice B m d,.slice B' m' d'],.agg #[t.al,t.st,.slice C k c2]] w
   fun e w'=>e=.returned (.tuple #[.agg #[(0:Int),(0:Int),(),(0:Int),(),(),(0:Int)],.bool false])∧Ext w w':=by
 have b:=za (fun W (hW:Ext w W)=>zcZ (c:=c) (d1:=d) (d1':=d') (c2:=c2) (hs.ext hW) (hp.ext hW) (ht.ext hW));rw [hif] at b;clear hs hp ht hif;obtain⟨j,U0⟩:∃ x,Hid ((((w.alloc (.cells #[s.al,s.st,.slice A n c] 38)).alloc (.cells #[p.al,.slice B m d,.slice B' m' d'] 31)).alloc (.cells #[t.al,t.st,.slice C k c2] 38)).alloc (.cells #[(0:Int),(0:Int),(),(0:Int),(),(),(0:Int)] 96)=x):=⟨_,za rfl⟩;have f:Ext w j:=(((((cY _).alloc _).alloc _).alloc _).alloc _).trans (eP U0.out);obtain⟨l,o,q⟩:=zL (((cY _).alloc _).trans (eP U0.out));have i:=dU U0.out;simp only [World.size_alloc] at i
 go_enter Tryz.func169,Tryz.ntmps169
 go_upto_region 1 with fail
 rw [U0.out] at *;have D:=l.cells;have z:=o.cells;have E:=q.cells;have y:=cY j;go_upto_region 99 with fail
 refine (b.out _ f).mono (mQ fun g a=>?_);have bz:=i.ext a;have G:=bz.cell;have F:=bz.frozen;have h:=f.trans a;have u:Frm (fun k=>k=w.heap.size+1+1+1) g (((((((g.setCell ⟨w.heap.size+1+1+1,0,none⟩ (0:Int)).setCell ⟨w.heap.size+1+1+1,1,none⟩ (0:Int)).setCell ⟨w.heap.size+1+1+1,2,none⟩ ()).setCell ⟨w.heap.size+1+1+1,3,none⟩ (0:Int)).setCell ⟨w.heap.size+1+1+1,4,none⟩ ()).setCell ⟨w.heap.size+1+1+1,5,none⟩ ()).setCell ⟨w.heap.size+1+1+1,6,none⟩ (0:Int)):=
  ((((((dE g _ 0 _).trans (dE _ _ 1 _)).trans (dE _ _ 2 _)).trans (dE _ _ 3 _)).trans (dE _ _ 4 _)).trans (dE _ _ 5 _)).trans (dE _ _ 6 _)
 have r:Blk (((((((g.setCell ⟨w.heap.size+1+1+1,0,none⟩ (0:Int)).setCell ⟨w.heap.size+1+1+1,1,none⟩ (0:Int)).setCell ⟨w.heap.size+1+1+1,2,none⟩ ()).setCell ⟨w.heap.size+1+1+1,3,none⟩ (0:Int)).setCell ⟨w.heap.size+1+1+1,4,none⟩ ()).setCell ⟨w.heap.size+1+1+1,5,none⟩ ()).setCell ⟨w.heap.size+1+1+1,6,none⟩ (0:Int)) (w.heap.size+1+1+1) 96 #[.int .i64 0,.int .i64 0,.slice none 0 0,.int .i64 0,.slice none 0 0,.slice none 0 0,.int .i64 0]:=by
  simpa using ((((((bz.ab 0 (.int .i64 0)).ab 1 (.int .i64 0)).ab 2 (.slice none 0 0)).ab 3 (.int .i64 0)).ab 4 (.slice none 0 0)).ab 5 (.slice none 0 0)).ab 6 (.int .i64 0)
 have hret:=za (h.frm u (fun k hk e=>oM));go_wp2_with fail
 generalize (((((((g.setCell ⟨w.heap.size+1+1+1,0,none⟩ (0:Int)).setCell ⟨w.heap.size+1+1+1,1,none⟩ (0:Int)).setCell ⟨w.heap.size+1+1+1,2,none⟩ ()).setCell ⟨w.heap.size+1+1+1,3,none⟩ (0:Int)).setCell ⟨w.heap.size+1+1+1,4,none⟩ ()).setCell ⟨w.heap.size+1+1+1,5,none⟩ ()).setCell ⟨w.heap.size+1+1+1,6,none⟩ (0:Int))=W at *;have cf:=r.cell;exact bodyPost_ret (v:=.tuple #[.agg #[(0:Int),(0:Int),(),(0:Int),(),(),(0:Int)],.bool false]) (by simp [results,Tryz.results169,go_sem,cf]) rfl ⟨rfl,hret.out⟩
theorem zht (hs:zP w lo hi A n s)(hp:zJ w lo1 hi1 B m B' m' p)(ht:zP w lo2 hi2 C k t)(hif:iface s p t = -1) :
  Calls Tryz.prog 91 #[.agg #[s.al,s.st,.slice A n c],.agg #[t.al,t.st,.slice C k c2],.agg #[p.al,.slice B m d,.slice B' m' d'],.nilFunc] w (zhn w ⟨3,noA,⟨#[]⟩,0⟩):=by
 have i:=za (fun W (hW:Ext w W)=>impl_TaskOf0 (c:=c) (d:=d) (d':=d') (c2:=c2) (hs.ext hW) (hp.ext hW) (ht.ext hW) hif);clear hs hp ht hif;obtain⟨u,U0⟩:∃ x,Hid ((((w.alloc (.cells #[s.al,s.st,.slice A n c] 38)).alloc (.cells #[t.al,t.st,.slice C k c2] 38)).alloc (.cells #[p.al,.slice B m d,.slice B' m' d'] 31)).alloc (.cells #[(0:Int),(0:Int),(),(),.string ⟨#[]⟩,(0:Int)] 67)=x):=⟨_,za rfl⟩;have b:Ext w u:=(((((cY _).alloc _).alloc _).alloc _).alloc _).trans (eP U0.out);obtain⟨l,o,q⟩:=zL (((cY _).alloc _).trans (eP U0.out));have h:=dU U0.out;simp only [World.size_alloc] at h
 go_enter Tryz.func91,Tryz.ntmps91
 go_upto_region 1 with fail
 rw [U0.out] at *;have r:=l.cell;have k2:=o.cell;have k3:=q.cell;go_upto_region 99 with fail
 refine (i.out _ b).mono (mQ fun y g=>?_);have f:=g.alloc (.cells #[(0:Int),(0:Int),(),(0:Int),(),(),(0:Int)] 96);have a:=h.ext f;have D:=a.cell;have z:=a.frozen;clear r k2 k3;have zkx:=vd_fin (b.trans f) a oM (.int .i64 3) (.int .i64 0) (.slice none 0 0) (.slice none 0 0) (.string ⟨#[]⟩) (.int .i64 0);have cf:=zkx.1.cell;have j:=za zkx.2.2;clear zkx a;go_wp2_with fail
 generalize ((((((y.alloc (.cells #[(0:Int),(0:Int),(),(0:Int),(),(),(0:Int)] 96)).setCell ⟨w.heap.size+1+1+1,0,none⟩ (3:Int)).setCell ⟨w.heap.size+1+1+1,1,none⟩ (0:Int)).setCell ⟨w.heap.size+1+1+1,2,none⟩ ()).setCell ⟨w.heap.size+1+1+1,3,none⟩ ()).setCell ⟨w.heap.size+1+1+1,4,none⟩ (.string ⟨#[]⟩)).setCell ⟨w.heap.size+1+1+1,5,none⟩ (0:Int)=X at *;exact bodyPost_ret (v:=.agg #[(3:Int),(0:Int),(),(),.string ⟨#[]⟩,(0:Int)]) (by simp [results,Tryz.results91,go_sem,cf]) rfl ⟨none,0,0,none,0,0,rfl,noA_own _ _,j.out⟩
theorem zdF {v:Vd} (HR:Hid (∀ W,Ext w W->Calls Tryz.prog 91 #[.agg #[s.al,s.st,.slice A n c],.agg #[t.al,t.st,.slice C k c2],.agg #[p.al,.slice B m d,.slice B' m' d'],.nilFunc] W (zhn W v))) :
  Calls Tryz.prog 39 #[.agg #[s.al,s.st,.slice A n c],.agg #[t.al,t.st,.slice C k c2],.agg #[p.al,.slice B m d,.slice B' m' d']] w (zhn w v):=by
 obtain⟨q,U0⟩:∃ x,Hid ((((w.alloc (.cells #[s.al,s.st,.slice A n c] 38)).alloc (.cells #[t.al,t.st,.slice C k c2] 38)).alloc (.cells #[p.al,.slice B m d,.slice B' m' d'] 31)).alloc (.cells #[(0:Int),(0:Int),(),(),.string ⟨#[]⟩,(0:Int)] 67)=x):=⟨_,za rfl⟩;have b:Ext w q:=(((((cY _).alloc _).alloc _).alloc _).alloc _).trans (eP U0.out);obtain⟨u,y,z⟩:=zL (((cY _).alloc _).trans (eP U0.out));have l:=dU U0.out;simp only [World.size_alloc] at l
 go_enter Tryz.func39,Tryz.ntmps39
 go_wp2_with fail
 rw [U0.out] at *;refine (HR.out q b).mono ?_;rintro e F ⟨g,j,i,A2,n2,k2,rfl,o,f⟩;have a:=l.ext f;have E:=a.cell;have D:=a.frozen;have zkx:=vd_fin (b.trans f) a oM (.int .i64 v.code) (.int .i64 v.asm.al) (.slice g j i) (.slice A2 n2 k2) (.string v.tr) (.int .i64 v.ro);have h:=za ((o.ar a zkx.2.1 dM).less b.size);have cf:=zkx.1.cell;have r:=za zkx.2.2;clear zkx a o;go_wp2_with fail
 exact bodyPost_ret (v:=.agg #[v.code,v.asm.al,.slice g j i,.slice A2 n2 k2,v.tr,v.ro]) (by simp [results,Tryz.results39,go_sem,cf]) rfl ⟨g,j,i,A2,n2,k2,rfl,h.out,r.out⟩
theorem zhZ (hs:zP w lo hi A n s)(hp:zJ w lo1 hi1 B m B' m' p)(ht:zP w lo2 hi2 C k t)(hT:Tab w) :
  Calls Tryz.prog 39 #[.agg #[s.al,s.st,.slice A n c],.agg #[t.al,t.st,.slice C k c2],.agg #[p.al,.slice B m d,.slice B' m' d']] w (zhn w (vpT s t p)):=by
 rcases zbm s t p with h|⟨L,h⟩
 ·rw [zfb h];exact zdF (za (fun W hW=>zht (hs.ext hW) (hp.ext hW) (ht.ext hW) h))
 ·have a:=(zbx (show 0<=iface s p t by omega)).1;exact zdF (za (fun W hW=>zia (hs.ext hW) (hp.ext hW) (ht.ext hW) h (by have:=hs.1;have:=valid_len a;omega) (hT.ext hW)))
theorem yE15a4 {P:Prop}(h:P:=by
 simpa using ((((b62.ab 0 (.bool (hdX v.code v.asm v.tr))).ab 1 (.int .i64 (zer v.code v.asm v.tr).al)).ab 2 (.slice A2 n2 k2)).ab 3 (.slice A3 n3 k3)).ab 4 (.string (zeE v.code v.asm v.tr))
 ):P:=h
theorem spec_CertifyPair_ofV {v:Vd} (HR:Hid (∀ W,Ext w W->Calls Tryz.prog 44 #[.agg #[s.al,s.st,.slice A n c],.agg #[t.al,t.st,.slice C k c2],.agg #[p.al,.slice B m d,.slice B' m' d']] W (zhn W v)))(hsz:Hid (v.asm.size<=1048576∧v.tr.size<=9223372036854775807))(hcv:Hid ((v.code=0->zE true v.asm v.tr=true)∧(v.code=1->zE false v.asm v.tr=true))) :
  Calls Tryz.prog 17 #[.agg #[s.al,s.st,.slice A n c],.agg #[t.al,t.st,.slice C k c2],.agg #[p.al,.slice B m d,.slice B' m' d']] w
   (zbs w (hdX v.code v.asm v.tr) (zer v.code v.asm v.tr) (zeE v.code v.asm v.tr) (okC v.code v.asm v.tr)):=by
 have f:Ext w ((((w.alloc (.cells #[s.al,s.st,.slice A n c] 38)).alloc (.cells #[t.al,t.st,.slice C k c2] 38)).alloc (.cells #[p.al,.slice B m d,.slice B' m' d'] 31)).alloc (.cells #[.bool false,(0:Int),(),(),.string ⟨#[]⟩] 33)):=((((cY _).alloc _).alloc _).alloc _).alloc _;obtain⟨D,E,F⟩:=zL ((cY _).alloc _:Ext (((w.alloc (.cells #[s.al,s.st,.slice A n c] 38)).alloc (.cells #[t.al,t.st,.slice C k c2] 38)).alloc (.cells #[p.al,.slice B m d,.slice B' m' d'] 31)) ((((w.alloc (.cells #[s.al,s.st,.slice A n c] 38)).alloc (.cells #[t.al,t.st,.slice C k c2] 38)).alloc (.cells #[p.al,.slice B m d,.slice B' m' d'] 31)).alloc (.cells #[.bool false,(0:Int),(),(),.string ⟨#[]⟩] 33)));have h:=dV (((w.alloc (.cells #[s.al,s.st,.slice A n c] 38)).alloc (.cells #[t.al,t.st,.slice C k c2] 38)).alloc (.cells #[p.al,.slice B m d,.slice B' m' d'] 31)) 33 #[.bool false,(0:Int),(),(),.string ⟨#[]⟩];simp only [World.size_alloc] at h
 go_enter Tryz.func17,Tryz.ntmps17
 go_upto_region 1 with fail
 generalize ((((w.alloc _).alloc _).alloc _).alloc _)=x at *;have G:=D.cell;have l:=E.cell;have H:=F.cell;have O:=fun W (hW:Ext x W)=>(h.ext hW).cell;have I:∀ W,Ext x W->_:=fun W hW=>(h.ext hW).frozen;go_wp2_with (first
  |(go_at_call 44;refine (HR.out x f).mono ?_;rintro e S ⟨T,V,U,z,R,M,rfl,L,g⟩;clear G l H)
  |(go_at_call 58;refine (zfS L.reads hsz.out.1 hsz.out.2 hcv.out.1 hcv.out.2).mono ?_;rintro e i ⟨A2,n2,k2,A3,n3,k3,rfl,o,r⟩;have a:=g.trans r;have b62:=h.ext a;have Q:=b62.cell;have J:=b62.frozen;clear O I))
 have y:Frm (fun b=>b=w.heap.size+1+1+1) i (((((i.setCell ⟨w.heap.size+1+1+1,0,none⟩ (.bool (hdX v.code v.asm v.tr))).setCell ⟨w.heap.size+1+1+1,1,none⟩ (.int .i64 (zer v.code v.asm v.tr).al)).setCell ⟨w.heap.size+1+1+1,2,none⟩ (.slice A2 n2 k2)).setCell ⟨w.heap.size+1+1+1,3,none⟩ (.slice A3 n3 k3)).setCell ⟨w.heap.size+1+1+1,4,none⟩ (.string (zeE v.code v.asm v.tr))):=((((dE i _ 0 _).trans (dE _ _ 1 _)).trans (dE _ _ 2 _)).trans (dE _ _ 3 _)).trans (dE _ _ 4 _);have j:Blk (((((i.setCell ⟨w.heap.size+1+1+1,0,none⟩ (.bool (hdX v.code v.asm v.tr))).setCell ⟨w.heap.size+1+1+1,1,none⟩ (.int .i64 (zer v.code v.asm v.tr).al)).setCell ⟨w.heap.size+1+1+1,2,none⟩ (.slice A2 n2 k2)).setCell ⟨w.heap.size+1+1+1,3,none⟩ (.slice A3 n3 k3)).setCell ⟨w.heap.size+1+1+1,4,none⟩ (.string (zeE v.code v.asm v.tr))) (w.heap.size+1+1+1) 33 #[.bool (hdX v.code v.asm v.tr),.int .i64 (zer v.code v.asm v.tr).al,.slice A2 n2 k2,.slice A3 n3 k3,.string (zeE v.code v.asm v.tr)]:=by
  exact yE15a4
 have q:=(o.ar b62 y dM).less (show w.heap.size<=S.heap.size by have:=f.size;have:=g.size;omega);have u:=(f.trans a).frm y (fun k hk e=>oM);have cf:=j.cell;exact bodyPost_ret (v:=.tuple #[.agg #[.bool (hdX v.code v.asm v.tr),.int .i64 (zer v.code v.asm v.tr).al,.slice A2 n2 k2,.slice A3 n3 k3,.string (zeE v.code v.asm v.tr)],.bool (okC v.code v.asm v.tr)]) (by simp [results,Tryz.results17,go_sem,cf]) rfl ⟨A2,n2,k2,A3,n3,k3,rfl,q,u⟩
theorem zfo {v:Vd} (HR:Hid (∀ W,Ext w W->Calls Tryz.prog 39 #[.agg #[s.al,s.st,.slice A n c],.agg #[t.al,t.st,.slice C k c2],.agg #[p.al,.slice B m d,.slice B' m' d']] W (zhn W v)))(hsz:Hid (v.asm.size<=1048576∧v.tr.size<=9223372036854775807))(hcv:Hid ((v.code=0->zE true v.asm v.tr=true)∧(v.code=1->zE false v.asm v.tr=true))) :
  Calls Tryz.prog 20 #[.agg #[s.al,s.st,.slice A n c],.agg #[t.al,t.st,.slice C k c2],.agg #[p.al,.slice B m d,.slice B' m' d']] w
   (zbs w (hdX v.code v.asm v.tr) (zer v.code v.asm v.tr) (zeE v.code v.asm v.tr) (okC v.code v.asm v.tr)):=by
 have f:Ext w ((((w.alloc (.cells #[s.al,s.st,.slice A n c] 38)).alloc (.cells #[t.al,t.st,.slice C k c2] 38)).alloc (.cells #[p.al,.slice B m d,.slice B' m' d'] 31)).alloc (.cells #[.bool false,(0:Int),(),(),.string ⟨#[]⟩] 33)):=((((cY _).alloc _).alloc _).alloc _).alloc _;obtain⟨D,E,F⟩:=zL ((cY _).alloc _:Ext (((w.alloc (.cells #[s.al,s.st,.slice A n c] 38)).alloc (.cells #[t.al,t.st,.slice C k c2] 38)).alloc (.cells #[p.al,.slice B m d,.slice B' m' d'] 31)) ((((w.alloc (.cells #[s.al,s.st,.slice A n c] 38)).alloc (.cells #[t.al,t.st,.slice C k c2] 38)).alloc (.cells #[p.al,.slice B m d,.slice B' m' d'] 31)).alloc (.cells #[.bool false,(0:Int),(),(),.string ⟨#[]⟩] 33)));have h:=dV (((w.alloc (.cells #[s.al,s.st,.slice A n c] 38)).alloc (.cells #[t.al,t.st,.slice C k c2] 38)).alloc (.cells #[p.al,.slice B m d,.slice B' m' d'] 31)) 33 #[.bool false,(0:Int),(),(),.string ⟨#[]⟩];simp only [World.size_alloc] at h
 go_enter Tryz.func20,Tryz.ntmps20
 go_upto_region 1 with fail
 generalize ((((w.alloc _).alloc _).alloc _).alloc _)=x at *;have G:=D.cell;have l:=E.cell;have H:=F.cell;have O:=fun W (hW:Ext x W)=>(h.ext hW).cell;have I:∀ W,Ext x W->_:=fun W hW=>(h.ext hW).frozen;go_wp2_with (first
  |(go_at_call 39;refine (HR.out x f).mono ?_;rintro e S ⟨T,V,U,z,R,M,rfl,L,g⟩;clear G l H)
  |(go_at_call 47;refine (zfL L.reads hsz.out.1 hsz.out.2 hcv.out.1 hcv.out.2).mono ?_;rintro e i ⟨A2,n2,k2,A3,n3,k3,rfl,o,r⟩;have a:=g.trans r;have b62:=h.ext a;have Q:=b62.cell;have J:=b62.frozen;clear O I))
 have y:Frm (fun b=>b=w.heap.size+1+1+1) i (((((i.setCell ⟨w.heap.size+1+1+1,0,none⟩ (.bool (hdX v.code v.asm v.tr))).setCell ⟨w.heap.size+1+1+1,1,none⟩ (.int .i64 (zer v.code v.asm v.tr).al)).setCell ⟨w.heap.size+1+1+1,2,none⟩ (.slice A2 n2 k2)).setCell ⟨w.heap.size+1+1+1,3,none⟩ (.slice A3 n3 k3)).setCell ⟨w.heap.size+1+1+1,4,none⟩ (.string (zeE v.code v.asm v.tr))):=((((dE i _ 0 _).trans (dE _ _ 1 _)).trans (dE _ _ 2 _)).trans (dE _ _ 3 _)).trans (dE _ _ 4 _);have j:Blk (((((i.setCell ⟨w.heap.size+1+1+1,0,none⟩ (.bool (hdX v.code v.asm v.tr))).setCell ⟨w.heap.size+1+1+1,1,none⟩ (.int .i64 (zer v.code v.asm v.tr).al)).setCell ⟨w.heap.size+1+1+1,2,none⟩ (.slice A2 n2 k2)).setCell ⟨w.heap.size+1+1+1,3,none⟩ (.slice A3 n3 k3)).setCell ⟨w.heap.size+1+1+1,4,none⟩ (.string (zeE v.code v.asm v.tr))) (w.heap.size+1+1+1) 33 #[.bool (hdX v.code v.asm v.tr),.int .i64 (zer v.code v.asm v.tr).al,.slice A2 n2 k2,.slice A3 n3 k3,.string (zeE v.code v.asm v.tr)]:=by
  exact yE15a4
 have q:=(o.ar b62 y dM).less (show w.heap.size<=S.heap.size by have:=f.size;have:=g.size;omega);have u:=(f.trans a).frm y (fun k hk e=>oM);have cf:=j.cell;exact bodyPost_ret (v:=.tuple #[.agg #[.bool (hdX v.code v.asm v.tr),.int .i64 (zer v.code v.asm v.tr).al,.slice A2 n2 k2,.slice A3 n3 k3,.string (zeE v.code v.asm v.tr)],.bool (okC v.code v.asm v.tr)]) (by simp [results,Tryz.results20,go_sem,cf]) rfl ⟨A2,n2,k2,A3,n3,k3,rfl,q,u⟩
theorem impl_CertifyPair (hs:zP w lo hi A n s)(hp:zJ w lo1 hi1 B m B' m' p)(ht:zP w lo2 hi2 C k t)(hT:Tab w) :
  Calls Tryz.prog 20 #[.agg #[s.al,s.st,.slice A n c],.agg #[t.al,t.st,.slice C k c2],.agg #[p.al,.slice B m d,.slice B' m' d']] w (zbs w (hdX (vpT s t p).code (vpT s t p).asm (vpT s t p).tr) (zer (vpT s t p).code (vpT s t p).asm (vpT s t p).tr) (zeE (vpT s t p).code (vpT s t p).asm (vpT s t p).tr) (okC (vpT s t p).code (vpT s t p).asm (vpT s t p).tr)):=
 zfo (za (fun W (hW:Ext w W)=>zhZ (hs.ext hW) (hp.ext hW) (ht.ext hW) (hT.ext hW))) (za ⟨(zgK s t p).1,dJ (zgK s t p).2 oM⟩) (za (vpT_cert s t p))
end
def shA (al p k:Nat) (a:Aut):Prop:=a.al=al∧a.next.length=p∧a.acc.length=p∧∀ l∈a.next,l.length=k
theorem zgD (h:Rd w R M)(hM:M<=900000000)(ha:a<64)(hp:p<=16) :
  Calls Tryz.prog 259 #[.pointer (some R),a,p] w (zhm R (M+400) (shA a p (letters a 6).length) w):=by
 have am:Sm a:=tM;have hRl:=h.lt
 go_enter Tryz.func259,Tryz.ntmps259
 have hxz:=(cY w).alloc (.cells #[(0:Int),(),()] 31);have bz:=dV w 31 #[(0:Int),(),()];obtain⟨w2,U0⟩:∃ x,Hid ((w.alloc (.cells #[(0:Int),(),()] 31)).alloc (.cells #[a,(),()] 31)=x):=⟨_,za rfl⟩;have S:=(cY (w.alloc (.cells #[(0:Int),(),()] 31))).alloc (.cells #[a,(),()] 31);have bG:=dU U0.out;have ao:=bz.lt;have an:(w.alloc (.cells #[(0:Int),(),()] 31)).heap.size=w.heap.size+1:=sM;rw [an] at bG;go_upto_region 2 with fail
 rw [U0.out] at *;generalize w.alloc _=T at *;go_wp2_with fail
 refine (zZ a am _).mono ?_;rintro e w3 ⟨B,d,rfl,-,G⟩;have c:zbX T w3 R (w.heap.size+1) M a (.slice none 0 0) [] [] (.slice none 0 0) []:=⟨bG.ext G,World.ownsRow_nil _ _ _ _,zH.nil _ _,World.ownsRow_nil _ _ _ _,h.ext ((hxz.trans S).trans G),(S.trans G).dr,oM,oM⟩;have aA:=zD a 6;clear bG G S;generalize (letters a 6).length=k at *;go_wp2_with fail
 go_loopw [9] (fun iv wr=>∃ (i:Nat) (v:Value) (g:List Value) (H:List (List Int)) (vA:Value) (r:List Bool),i<=p∧iv=.int .i64 (i:Nat)∧zbX T wr R (w.heap.size+1) (M+i*20) a v g H vA r∧H.length=i∧r.length=i∧Hid (∀ l∈H,l.length=k)) (fun iv _=>p - (intOf iv).toNat)
 case atStart=>exact⟨0,_,[],[],_,[],dF _,rfl,c,rfl,rfl,za (fun l hl=>by simp at hl)⟩
 case round =>
  clear c;obtain⟨i,v,g,H,vA,r,hi,rfl,c,u,F,U⟩:=hrel
  by_cases hip:i<p
  ·have C:=za c.low;have hK:=za (show T.heap.size<=wr.heap.size from c.dr.size);have h0:=World.ownsRow_made (base:=wr.heap.size) (e:=3) (size:=1) wr #[] 0 (dD _) (dF _) rfl;have Q:=(cY wr).alloc (.cells #[] 3);have m:=c.ext Q;go_upto_region 7 with fail
   clear c;obtain⟨I,aa⟩:∃ I,I=wr:=⟨_,rfl⟩;rw [← aa] at h0 C hK m Q ⊢;clear aa;generalize I.alloc _=w4 at *;go_wp2_with fail
   go_loopw [10,11] (fun rv jv wr=>∃ (j:Nat) (l:List Int),j<=k∧jv=.int .i64 (j:Nat)∧zbX T wr R (w.heap.size+1) (M+i*20+j) a v g H vA r∧l.length=j∧wr.ownsRow I.heap.size 3 1 rv j (ints l)∧Hid (I.heap.size<=wr.heap.size)) (fun _ jv _=>k - (intOf jv).toNat)
   case atStart=>exact⟨0,[],dF _,rfl,m,rfl,h0,za Q.size⟩
   case round =>
    clear m h0;obtain⟨j,l,hj,rfl,c,t,f,al⟩:=hrel
    by_cases hjk:j<k
    ·obtain⟨AR,cR,rfl⟩:=zi f;go_wp2_with fail
     refine (zA c.rd oM).mono ?_;rintro e w5 ⟨y,rfl,-,-,aj,L⟩;have J:=c.drawn L aj;have E:=zbN f L (fun b h1 e=>by have:=c.dr.size;have:=c.hR;have:=hK.out;omega);have Z:I.heap.size<=w5.heap.size:=dJ al.out L.size;have O:=za t;clear t c f;go_wp2_with (at_builtin;refine zad I w5 rfl _ _ _ rfl 3 _ 1 8 Tryz.underlying128 zag rfl dM (.slice AR j cR) j (ints l) _ _ rfl rfl Z E rfl (by simp [Value.oneCell']) lM oM ?_;intro g5 cap5 w6 hown6 hg6 hat6 hlt6)
     go_roundw
     case rel=>exact⟨j+1,l++[(y:Int)],oM,gM,(J.side C.out hK.out E hg6).more oM,by simp [O.out],by simpa [ints] using hown6,za (dJ Z hg6.size)⟩
     case measure=>simp [intOf];omega
    ·obtain rfl:j=k:=oM;obtain⟨AR,cR,rfl⟩:=zi f;have cG:=c.blk.cell;have ak:=c.dr.size;have D:wr.ownsRow I.heap.size 3 1 (.slice AR j cR) l.length (ints l):=by rw [t];exact f
     go_upto_region 12 with (at_builtin;refine zad T wr rfl _ _ _ rfl 128 _ 1 24 Tryz.underlying25 zcw rfl dM v H.length g _ _ rfl rfl ak c.nx rfl (zbd _ _ _) lM oM ?_;intro g5 cap5 w6 hown6 hg6 hat6 hlt6;obtain⟨q1,q2,q3⟩:=c.ax C.out hK.out D hown6 hg6 hat6;have ap:=q1.out)
     rw [u] at q3;clear q1 ap q2 hown6 hg6 hat6 hlt6 f D cG c;have V:=za (show ∀ l'∈H++[l],l'.length=j from fun l' O=>by
      rcases List.mem_append.1 O with h1|h1
      ·exact U.out l' h1
      ·rw [List.mem_singleton.1 h1];exact t)
     have Y:(H++[l]).length=i+1:=by simp [u]
     clear t u;generalize H++[l]=aB at *;generalize g++[.slice AR j cR]=aq at *;generalize w6.setCell ⟨w.heap.size+1,1,none⟩ (.slice (some g5) (i+1) cap5)=w7 at *;generalize Value.slice (some g5) (i+1) cap5=v7 at *;have cG:∀ W,Dr R w7 W->∀ q,W.cell? ⟨w.heap.size+1,q,none⟩=#[Value.int .i64 a,v7,vA][q]?:=fun W hW=>(q3.blk.dr hW oM).cell;refine tR (fun X=>Dr R w7 X) [6,8] (Ord.of [0,1,2,3,4,5,6,7,8]) ?_;refine tQ ?_;refine zC fun K hK=>?_;go_simp;refine (zA (n:=3) (q3.rd.ext ((cY _).drew)) oM).mono ?_;rintro e w8 ⟨z,rfl,-,-,hr8,hd8⟩;have s:Dr R w7 w8:=((Dr.refl R w7).drew).trans hd8;have o:=q3.drawn s hr8;refine hK.out _ _ s ?_;refine pT ?_;refine tQ ?_;refine zC fun K hK=>?_;go_simp;refine hK.out _ _ (s.alloc _) ?_;refine pT ?_;refine zT fun K hK=>?_
     trace_state
     refine zaN T w8 _ _ _ rfl 4 _ 1 1 Tryz.underlying26 zbj rfl dM vA r.length (zaq r) _ _ rfl rfl o.dr.size o.acc rfl (by simp [Value.oneCell']) lM oM ?_;intro g9 cap9 w9 hown9 hg9 hat9 hlt9;refine hK.out _ _ ?_;refine pT ?_;refine tQ ?_;obtain⟨p1,p2,p3⟩:=o.aq (x:=decide (0<z)) (W':=w9) hown9 hg9 hat9;have aD:=p1.out;rw [F] at p3;refine zT fun K hK=>?_;go_simp;refine hK.out _ _ ?_;refine zao ?_;go_wp2_with fail
     go_roundw
     case rel=>exact⟨i+1,_,_,_,_,_,oM,gM,p3.more oM,Y,by simp [F],V⟩
     case measure=>simp [intOf];omega
  ·obtain rfl:i=p:=oM;obtain⟨A5,c5,rfl⟩:=zi c.nx;obtain⟨B5,d5,rfl⟩:=zi c.acc;obtain⟨f1,f2⟩:=c.fin (N:=M+400) (sh:=shA a i k) hxz bz rfl hRl (dD _) ao oM ⟨rfl,u,F,U.out⟩;rw [u,F] at f1 f2;have cG:=c.blk.cell;have bz5:=bz.dr c.dr oM;have cZ:=bz5.cell;have fZ:=bz5.frozen;go_wp2_with fail
   have cf:=f2.cell;exact bodyPost_ret (v:=.agg #[a,.slice A5 i c5,.slice B5 i d5]) (by simp [results,Tryz.results259,go_sem,cf]) rfl f1.out
section
variable {w0 W W':World} {R G M N:Nat} {al:Int} {v vA:Value} {rows:List Value} {ls:List (List Int)} {acc:List Bool}
theorem zbX.of {a:Aut}(ho:zac W w0.heap.size A n c A' n' c' a)(hr:Rd W R M)(hd:Dr R w0 W)(hR:R<w0.heap.size) :
  ∃ rows,zbX w0 (W.alloc (.cells #[a.al,.slice A n c,.slice A' n' c'] 31)) R W.heap.size M a.al (.slice A n c) rows a.next (.slice A' n' c') a.acc:=by
 obtain⟨⟨rows,d,f⟩,i,g,h⟩:=ho;have b:=(cY W).alloc (.cells #[a.al,.slice A n c,.slice A' n' c'] 31);refine⟨rows,dV W _ _,zh d b,f.keep b.aj (fun _ _=>id),?_,hr.ext b,hd.ext b,hR,hd.size⟩;rw [← h];exact zh g b
theorem zbX.setAcc {x:Bool}(h:zbX w0 W R G M al v rows ls (.slice (some g) n c) acc)(hn:n=acc.length) :
  zbX w0 (W.setCell ⟨g,i,none⟩ (.bool x)) R G M al v rows ls (.slice (some g) n c) (acc.set i x):=by
 subst hn;have a:=dE W g i (.bool x);have f:=(h.acc.lt g rfl).1;have d:=h.hR;have hst:=(h.acc.stored i (.bool x)).1;rw [show (zaq acc).set i (.bool x)=zaq (acc.set i x) by simp [zaq,List.map_set]] at hst;refine⟨h.blk.frm a (fun e=>zr h.acc h.blk dM rfl e.symm),zg h.nx a (fun b hb hS=>?_),h.rows.frm a (fun i' r b hr hb hS=>?_),by simpa using hst,h.rd.frm a (fun k hk e=>oM),h.dr.ag (p:=⟨g,i,none⟩) f _,d,h.hG⟩
 ·subst hS;exact zaG h.nx h.acc dM hb rfl
 ·subst hS;obtain⟨l,_,j⟩:=h.rows.row hr;exact zaG j h.acc dM hb rfl
theorem zbX.setRow {k:Nat}  (h:zbX w0 W R G M al v rows ls vA acc)(hr:rows[i]?=some (.slice (some g) n c))(hl:ls[i]?=some l)(hn:n=l.length) :
  zbX w0 (W.setCell ⟨g,k,none⟩ x) R G M al v rows (ls.set i (l.set k x)) vA acc:=by
 subst hn;have a:=dE W g k (.int .i64 x);have d:=h.rows.2.1 i _ l hr hl;have o:=(d.lt g rfl).1;have f:=h.hR;have hst:=(d.stored k (.int .i64 x)).1;rw [show (ints l).set k (.int .i64 x)=ints (l.set k x) by simp [ints,List.map_set]] at hst;have m:Frm (Go.Proofs.YtcfchopfijalpaaGreatDoor.blk (some ⟨g,0,none⟩)) W (W.setCell ⟨g,k,none⟩ x):=a.mono (fun b _ hb=>⟨_,rfl,hb.symm⟩);refine⟨h.blk.frm a (fun e=>zr d h.blk dM rfl e.symm),?_,?_,zg h.acc a (fun b hb hS=>?_),h.rd.frm a (fun k hk e=>oM),h.dr.ag (p:=⟨g,k,none⟩) o _,f,h.hG⟩
 ·rw [fH];exact zg h.nx a (fun b hb hS=>by subst hS;exact zaG h.nx d dM hb rfl)
 ·have:=h.rows.ab (w':=W.setCell ⟨g,k,none⟩ x) (j:=i) (l:=l.set k x) (A:=some ⟨g,0,none⟩) (c:=c) (by simpa using hr) m (by simpa using hst);exact this
 ·subst hS;exact zaG h.acc d dM hb rfl
theorem zbX.row (h:zbX w0 W R G M al (.slice (some g) n c) rows ls vA acc)(hl:ls[i]?=some l)(hn:n=ls.length) :
  ∃ Ar cr,rows[i]?=some (.slice Ar l.length cr)∧W.cell? ⟨g,i,none⟩=some (.slice Ar l.length cr)∧W.ownsRow w0.heap.size 3 1 (.slice Ar l.length cr) l.length (ints l):=by
 subst hn;have f:i<ls.length:=(List.getElem?_eq_some_iff.1 hl).1;have b:i<rows.length:=by rw [h.rows.1];exact f
 have a:rows[i]?=some rows[i]:=dC b;have d:=h.rows.2.1 i _ l a hl;obtain⟨Ar,cr,e⟩:=zi d;rw [e] at a d;exact⟨Ar,cr,a,by rw [h.nx.cellAt i oM,a],d⟩
end
theorem ziv (h:Rd w R M)(hM:M<=900000000)(ha:a<64)(hp0:1<=p)(hp:p<=16) :
  Calls Tryz.prog 258 #[.pointer (some R),a,p] w (zhm R (M+400) (shA a p (letters a 6).length) w):=by
 have hRl:=h.lt
 go_enter Tryz.func258,Tryz.ntmps258
 go_wp2_with fail
 generalize U0:w.alloc _=Z at *;have hxz:=Ext.al_ U0;have bz:=dU U0;have U:=bz.lt;clear U0;refine (zgD (h.ext hxz) hM ha hp).mono ?_;rintro e w2 ⟨b,A,n,c,A',n',c',rfl,zku,hsh,E,B⟩;obtain⟨u,d⟩:=zbX.of zku E B oM;obtain⟨s1,J,L,Y⟩:=hsh.out;have H:n=b.next.length:=zku.2.1;have t:n'=b.acc.length:=zku.2.2.2;obtain⟨ag,y,af⟩:=b;dsimp only at *;subst s1;rw [J] at H;rw [L] at t;replace H:=H.symm;replace t:=t.symm;subst H;subst t;have hG:=B.size;clear zku E B hsh;have X:=za Y;clear Y;have an:=zD a 6;generalize (letters a 6).length=k at *;obtain⟨Q,rfl,ak,-⟩:=zU (L ▸ d.acc) hp0;obtain⟨S,rfl,al,-⟩:=zU (J ▸ d.nx) hp0;have V:=za J;have S3:=za L;clear J L;go_upto_region 2 with fail
 generalize w2.alloc _=w3 at *;generalize w2.heap.size=G at *;go_wp2_with fail
 go_loopw [8] (fun iv wr=>∃ (i:Nat) (r:List Bool),i<=p∧iv=.int .i64 (i:Nat)∧zbX Z wr R G (M+400) a (.slice (some S) p c) u y (.slice (some Q) p c') r∧Hid (r.length=p)) (fun iv _=>p - (intOf iv).toNat)
 case atStart=>exact⟨0,_,dF _,rfl,d,S3⟩
 case round =>
  clear d;obtain⟨i,r,hi,rfl,d,hal⟩:=hrel
  by_cases hip:i<p
  ·have cG:=d.blk.cell;have I:=d.acc;rw [hal.out] at I;obtain⟨o0,c0⟩:=zbc I i oM;have f0:=I.frozenAt i;have q:=d.setAcc (i:=i) (x:=decide ((i:Int)<(p:Int) - 1)) hal.out.symm;clear I;go_wp2_with fail
   go_roundw
   case rel=>exact⟨i+1,_,oM,gM,q,za (by rw [fH];exact hal.out)⟩
   case measure=>simp [intOf];omega
  ·clear hi;have hp1:p - 1<y.length:=oH V.out;obtain⟨l0,f⟩:∃ l,y[p - 1]?=some l:=⟨_,dC hp1⟩;have m:=za (X.out l0 (dB f));have O:=za f;have ao:((p:Int) - 1).toNat=p - 1:=oM;clear f hp1;go_wp2_with fail
   go_loopw [9] (fun iv wr=>∃ (j:Nat) (F:List (List Int)) (l:List Int),j<=k∧iv=.int .i64 (j:Nat)∧zbX Z wr R G (M+400) a (.slice (some S) p c) u F (.slice (some Q) p c') r∧Hid (F.length=p)∧Hid (∀ l∈F,l.length=k)∧Hid (F[p - 1]?=some l)) (fun iv _=>k - (intOf iv).toNat)
   case atStart=>exact⟨0,_,_,dF _,rfl,d,V,X,O⟩
   case round =>
    clear d m;obtain⟨j,F,l,hj,rfl,d,s,C,f⟩:=hrel;have m:=C.out l (dB f.out);obtain⟨Ar,cr,D,z,o⟩:=d.row f.out s.out.symm;have cG:=d.blk.cell;rw [m] at D z o;have HR:=za D;clear D
    by_cases hjk:j<k
    ·obtain⟨g,rfl,-,-⟩:=zU o oM;obtain⟨o0,c0⟩:=zbc o j oM;have f0:=o.frozenAt j;have q:=d.setRow (k:=j) (x:=(p:Int) - 1) HR.out f.out m.symm;clear o;have HL:=za m;clear m;go_wp2_with fail
     go_roundw
     case rel =>
      refine⟨j+1,_,l.set j ((p:Int) - 1),oM,gM,q,za (by rw [fH];exact s.out),za (fun l' hl'=>?_),za ?_⟩
      ·rcases List.mem_or_eq_of_mem_set hl' with T|T
       ·exact C.out l' T
       ·rw [T,fH];exact HL.out
      ·have:=s.out;rw [eQ oM]
     case measure=>simp [intOf];omega
    ·obtain⟨f1,f2⟩:=d.fin (N:=M+400) (sh:=shA a p k) hxz bz rfl hRl (dD _) U oM ⟨rfl,s.out,hal.out,C.out⟩;have bz5:=bz.dr d.dr oM;have cZ:=bz5.cell;have fZ:=bz5.frozen;clear o m;go_wp2_with fail
     have cf:=f2.cell;exact bodyPost_ret (v:=.agg #[a,.slice (some S) p c,.slice (some Q) p c']) (by simp [results,Tryz.results258,go_sem,cf]) rfl f1.out
def zkn:Value->ByteArray
 |.string s=>s
 |_=>⟨#[]⟩
def RetTexts (L:Nat) (w:World) (e:Ending) (w':World):Prop:=∃ (A:Option Addr) (n c:Nat) (l:List ByteArray),e=.returned (.slice A n c)∧0<n∧w'.ownsRow w.heap.size 9 1 (.slice A n c) n (zS l)∧(∀ x∈l,x.size<=L)∧Ext w w'
theorem zbF (w:World)  (hu:zS (us.toList.map zkn)=us.toList)(hn:us.size=n)(h:n<=1000):(w.alloc (.cells us 9)).ownsRow w.heap.size 9 1 (.slice (some w.heap.size) n n) n (zS (us.toList.map zkn)):=by
 rw [hu];exact World.ownsRow_lit w us n (dD _) lM (by simpa using hn)
theorem spec_l2Texts :Calls Tryz.prog 279 #[] w (RetTexts 100 w):=by
 go_enter Tryz.func279,Tryz.ntmps279
 go_wp2;go_ret;exact⟨_,_,_,_,rfl,dM,zbF w rfl rfl oM,by decide +kernel,(cY _).alloc _⟩
theorem reads_ints {e:TypeId} (l:List Int)(hu:us.toList=ints l)(hn:us.size=n)(hx:Ext (w.alloc (.cells us e)) w')(h63:n<=1000):Reads w' w.heap.size (w.heap.size+1) 1 (some ⟨w.heap.size,0,none⟩) n (ints l):=
 ⟨by rw [← hu];simpa using hn,oM,fun _=>⟨_,rfl,dD _,sM,fun j u hj=>by
  have:=(zcu hx).cell j
  rw [zY,Nat.zero_add,this]
  rw [← hu] at hj
  simpa using hj⟩⟩
theorem zbe (l:List Int) (n:Nat) (us:Array Value)(hu:us.toList=ints l)(hn:us.size=n)(h0:0<n)(h63:n<=1000)(h:Rd w R M)(hM:M<=1000000000) :
  Calls Tryz.prog 237 #[.pointer (some R),.slice (some w.heap.size) n n] (w.alloc (.cells us 3)) (RetNum R M l (w.alloc (.cells us 3))):=
 l19Rd_num (h.ext ((cY _).alloc _)) hM (reads_ints l hu hn (cY _) h63) h.lt h0
theorem zhM {s:Sys}  (hs:zbP W R A n s)(hg:Good s)(hn:n<=L∧n<=c)(hr:Rd W R M)(hd:Dr R w W)(hB:Blk W Z 38 cs)(hR:R<w.heap.size)(hZ:w.heap.size<=Z) :
  RetG R M L w (.returned (.agg #[s.al,s.st,.slice A n c])) (((W.setCell Z s.al).setCell ⟨Z,1,none⟩ s.st).setCell ⟨Z,2,none⟩ (.slice A n c)):=by
 have a:=zfe W Z (.int .i64 s.al) (.int .i64 s.st) (.slice A n c);exact⟨s,A,n,c,rfl,hs.far hB dM a,hg,hn,hr.frm a (fun k h1 h2=>oM),((hd.ag (p:=⟨Z,0,none⟩) hZ _).ag (p:=⟨Z,1,none⟩) hZ _).ag (p:=⟨Z,2,none⟩) hZ _⟩
theorem yE15a1 {P:Prop}(h:P:=by
 go_wp2_with fail
 refine (zbe [3,2,4,1,5] 5 #[(3:Int),(2:Int),(4:Int),(1:Int),(5:Int)] rfl rfl oM oM hr6 oM).mono ?_;rintro e w7 ⟨st,hst,rfl,hr7,hd7⟩;have hw7:=(hw6.ext ((Ext.refl _).alloc _)).trans hd7;have bz7:=(bz6.ext ((Ext.refl _).alloc _)).dr hd7 oM;go_wp2_with fail
 refine (zbe [3,2,4,6] 4 #[(3:Int),(2:Int),(4:Int),(6:Int)] rfl rfl oM oM hr7 oM).mono ?_;rintro e w8 ⟨fw,_,rfl,hr8,hd8⟩;have hw8:=(hw7.ext ((Ext.refl _).alloc _)).trans hd8;have bz8:=(bz7.ext ((Ext.refl _).alloc _)).dr hd8 oM;obtain⟨a,rfl,ha⟩:∃ a:Nat,al=a∧a<64:=⟨al.toNat,by simp at hal;omega,by simp at hal;omega⟩;obtain⟨p,rfl,hp1,hp⟩:∃ p:Nat,st=p∧1<=p∧p<=16:=⟨st.toNat,by simp at hst;omega,by simp at hst;omega,by simp at hst;omega⟩;clear hal hst;go_wp2_with fail
 refine (zeD hr8 oM ha hp1 hp).mono ?_;rintro e w9 ⟨s9,A9,n9,c9,rfl,hs9,hg9,hn9,hr9,hd9⟩;have bz9:=bz8.dr hd9 oM;have hfin9:=za (zhM (R:=R) (M:=M+30000) (L:=20000) (c:=c9) hs9 hg9 hn9 (hr9.more oM) (hw8.trans hd9) bz9 hRl (Nat.le_refl _));have cz9:=bz9.cell;have fz9:=bz9.frozen;go_wp2_with fail
 exact bodyPost_ret (v:=.agg #[s9.al,s9.st,.slice A9 n9 c9]) (by simp [results,Tryz.results249,go_sem,cz9]) rfl hfin9.out
 ):P:=h
theorem zit (h:Rd w R M)(hM:M<=800000000) :
  Calls Tryz.prog 249 #[.pointer (some R)] w (RetG R (M+30000) 20000 w):=by
 have hRl:=h.lt;have t:=(cY w).alloc (.cells #[(0:Int),(0:Int),()] 38);have bz:=dV w 38 #[(0:Int),(0:Int),()]
 go_enter Tryz.func249,Tryz.ntmps249
 go_wp2_with fail
 refine (zA (h.ext t) oM).mono ?_;rintro e w1 ⟨y,rfl,_,_,q,o⟩;have hw1:=t.dr.trans o;have g:=bz.dr o oM;have U:=g.lt;clear bz
 by_cases hy:y=0
 ·subst hy;go_wp2_with fail
  refine (spec_l2Texts).mono ?_;rintro e w2 ⟨A,n,c,l,rfl,O,zku,J,j⟩;go_wp2_with fail
  refine (l19Rd_of (q.ext j) oM (Reads.af zku) oM O).mono ?_;rintro e w3 ⟨x,Q,rfl,z,p⟩;have S:=J x Q;go_wp2_with fail
  refine (zdb z oM).mono ?_;rintro e w4 ⟨s,B,m,d,V,rfl,H,⟨G,-⟩,Z,hr4,hd4⟩;have r:Dr R w w4:=((hw1.ext j).trans p).trans hd4;have k:=((g.ext j).dr p oM).dr hd4 oM;have a:=(cY w4).alloc (.cells #[s.al,s.st,.slice B m d] 38);have F:=dV w4 38 #[s.al,s.st,.slice B m d];cases V
  ·have C:=hr4.ext a;have D:=r.ext a;have bz5:=k.ext a;clear F a H G;go_wp2_with fail
   have E:=(zbe [3,6,7,5,1,0,12] 7 #[(3:Int),(6:Int),(7:Int),(5:Int),(1:Int),(0:Int),(12:Int)] rfl rfl oM oM C oM);simp only [World.size_alloc] at E;refine E.mono ?_;rintro e X ⟨al,hal,rfl,hr6,b⟩;have hw6:=(D.ext ((cY _).alloc _)).trans b;have bz6:=(bz5.ext ((cY _).alloc _)).dr b oM;exact yE15a1
  ·have i:=G rfl;have Y:=F.cell;have f:=k.ext a;have u:=f.cell;have I:=f.frozen;go_wp2_with fail
   generalize w4.alloc _=w5 at *;have zkx:=zhM (R:=R) (M:=M+30000) (L:=20000) (c:=d) (H.ext a) i oM ((hr4.more oM).ext a) (r.ext a) f hRl (dD _);exact bodyPost_ret (v:=.agg #[s.al,s.st,.slice B m d]) (by simp [results,Tryz.results249,go_sem,u]) rfl zkx
 ·have T:((y:Int)==0)=false:=(by rw [beq_eq_false_iff_ne];omega);go_wp2_with fail
  refine (zbe [3,6,7,5,1,0,12] 7 #[(3:Int),(6:Int),(7:Int),(5:Int),(1:Int),(0:Int),(12:Int)] rfl rfl oM oM q oM).mono ?_;rintro e X ⟨al,hal,rfl,hr6,b⟩;have hw6:=(hw1.ext ((cY _).alloc _)).trans b;have bz6:=(g.ext ((cY _).alloc _)).dr b oM;exact yE15a1
def zhl (b:Aut):Prop:=∃ a p:Nat,a<64∧1<=p∧p<=16∧shA a p (letters a 6).length b
theorem zhm.mono {sh sh':Aut->Prop}  {e:Ending}(h:zhm R M sh w e w')(hd:Dr R w0 w)(hM:M<=N)(hs:∀ b,sh b->sh' b):zhm R N sh' w0 e w':=by
 obtain⟨b,A,n,c,A',n',c',d,f,hsh,g,a⟩:=h;exact⟨b,A,n,c,A',n',c',d,f.less hd.size,za (hs b hsh.out),g.more hM,hd.trans a⟩
theorem zjA {sh:Aut->Prop}   (hx:Ext w w0)(ho:zac W w0.heap.size A n c A' n' c' b)(hsh:sh b)(hr:Rd W R M)(hd:Dr R w0 W) (bz:Blk w0 Z t cs)(hc:cs.size=3)(hR:R<w.heap.size)(hZ:w.heap.size<=Z)(hM:M<=N) :
  Hid (zhm R N sh w (.returned (.agg #[b.al,.slice A n c,.slice A' n' c'])) (((W.setCell Z b.al).setCell ⟨Z,1,none⟩ (.slice A n c)).setCell ⟨Z,2,none⟩ (.slice A' n' c'))) ∧
  Blk (((W.setCell Z b.al).setCell ⟨Z,1,none⟩ (.slice A n c)).setCell ⟨Z,2,none⟩ (.slice A' n' c')) Z t #[.int .i64 b.al,.slice A n c,.slice A' n' c']:=by
 have d:=bz.lt;have a:=zaw W Z (.int .i64 b.al) (.slice A n c) (.slice A' n' c');refine⟨za ⟨b,A,n,c,A',n',c',rfl,(ho.keep a (fun b h1 e=>oM)).less hx.size,za hsh,(hr.more hM).frm a (fun k hk e=>oM),?_⟩,zaI (bz.dr hd oM) hc _ _ _⟩;exact (((hx.dr.trans hd).ag (p:=⟨Z,0,none⟩) hZ _).ag (p:=⟨Z,1,none⟩) hZ _).ag (p:=⟨Z,2,none⟩) hZ _
theorem spec_l1Some (h:Rd w R M)(hM:M<=900000000) :
  Calls Tryz.prog 274 #[.pointer (some R)] w (fun e w'=>∃ x:Nat,x<64∧e=.returned (.int .i64 x)∧Rd w' R (M+1)∧Dr R w w'):=by
 go_enter Tryz.func274,Tryz.ntmps274
 go_wp2_with fail
 refine (zbe [3,7,1,5,0,6,63,2,21] 9 #[(3:Int),(7:Int),(1:Int),(5:Int),(0:Int),(6:Int),(63:Int),(2:Int),(21:Int)] rfl rfl oM oM h oM).mono ?_;rintro e f ⟨x,c,rfl,b,a⟩;obtain⟨y,d,rfl⟩:∃ y:Nat,y<64∧x=(y:Int):=⟨x.toNat,by simp at c;omega,by simp at c;omega⟩;clear c;go_wp2_with fail
 go_ret;exact⟨y,d,rfl,b,((Dr.refl R w).alloc _).trans a⟩
theorem yE15a2 {P:Prop}(h:P:=by
 intro e w4 hret;obtain⟨b,A,n,c,A',n',c',rfl,zku,hsh,hr4,hd4⟩:=hret.mono (N:=M+500) (sh':=zhl) hd13 oM (fun b hb=>⟨a,p,ha,hp1,oM,hb⟩);obtain⟨f1,f2⟩:=zjA (N:=M+500) (sh:=zhl) hxz zku hsh.out hr4 hd4 bz rfl hRl (Nat.le_refl _) (Nat.le_refl _);have bz5:=bz.dr hd4 oM;have cZ:=bz5.cell;have fZ:=bz5.frozen;go_wp2_with fail
 have cf:=f2.cell;exact bodyPost_ret (v:=.agg #[b.al,.slice A n c,.slice A' n' c']) (by simp [results,Tryz.results196,go_sem,cf]) rfl f1.out
 ):P:=h
theorem ziu (h:Rd w R M)(hM:M<=800000000)(ha:a<64) :
  Calls Tryz.prog 196 #[.pointer (some R),a] w (zhm R (M+500) zhl w):=by
 have hRl:=h.lt
 go_enter Tryz.func196,Tryz.ntmps196
 go_wp2_with fail
 generalize U0:w.alloc _=l at *;have hxz:=Ext.al_ U0;have bz:=dU U0;clear U0;refine (zA (h.ext hxz) oM).mono ?_;rintro e m ⟨y,rfl,-,-,g,f⟩
 by_cases hy:y=0
 ·subst hy;go_wp2_with fail
  refine (zbe [3,2,4,1] 4 #[(3:Int),(2:Int),(4:Int),(1:Int)] rfl rfl oM oM g oM).mono ?_;rintro e k ⟨x,b,rfl,d,c⟩;obtain⟨p,hp1,i,rfl⟩:∃ y:Nat,1<=y∧y<=4∧x=(y:Int):=⟨x.toNat,by simp at b;omega,by simp at b;omega,by simp at b;omega⟩;clear b;have hd13:=(f.alloc _).trans c;go_wp2_with fail
  refine (ziv d oM ha hp1 oM).mono ?_;exact yE15a2
 ·have j:((y:Int)==0)=false:=by simp;omega
  go_wp2_with fail
  refine (zbe [2,3,1,4,5] 5 #[(2:Int),(3:Int),(1:Int),(4:Int),(5:Int)] rfl rfl oM oM g oM).mono ?_;rintro e k ⟨x,b,rfl,d,c⟩;obtain⟨p,hp1,i,rfl⟩:∃ y:Nat,1<=y∧y<=5∧x=(y:Int):=⟨x.toNat,by simp at b;omega,by simp at b;omega,by simp at b;omega⟩;clear b;have hd13:=(f.alloc _).trans c;go_wp2_with fail
  refine (zgD d oM ha oM).mono ?_;exact yE15a2
section
variable {w0 W W':World} {R G M N:Nat} {al:Int} {v vA:Value} {rows:List Value} {ls:List (List Int)} {acc:List Bool}
theorem zbX.setAl (h:zbX w0 W R G M al v rows ls vA acc) (x:Int):zbX w0 (W.setCell G x) R G M x v rows ls vA acc:=by
 have d:=h.hR;have a:=h.hG;have c:=dE W G 0 (.int .i64 x);refine⟨by simpa using h.blk.ab 0 _,zg h.nx c (fun b hb hS=>zr h.nx h.blk dM hb hS),h.rows.frm c (fun i r b hr hb hS=>?_),zg h.acc c (fun b hb hS=>zr h.acc h.blk dM hb hS),h.rd.frm c (fun k hk e=>oM),h.dr.ag (p:=⟨G,0,none⟩) a _,d,a⟩;obtain⟨g,_,f⟩:=h.rows.row hr;exact zr f h.blk dM hb hS
theorem zbX.setNext (h:zbX w0 W R G M al v rows ls vA acc) (ho:W.ownsRow w0.heap.size 128 1 v' 0 []):zbX w0 (W.setCell ⟨G,1,none⟩ v') R G M al v' [] [] vA acc:=by
 have c:=h.hR;have a:=h.hG;have d:=dE W G 1 v';exact⟨by simpa using h.blk.ab 1 _,zg ho d (fun b hb hS=>zr ho h.blk dM hb hS),zH.nil _ _,zg h.acc d (fun b hb hS=>zr h.acc h.blk dM hb hS),h.rd.frm d (fun k hk e=>oM),h.dr.ag (p:=⟨G,1,none⟩) a _,c,a⟩
theorem zbX.setMarks (h:zbX w0 W R G M al v rows ls vA acc) (ho:W.ownsRow w0.heap.size 4 1 v' 0 []):zbX w0 (W.setCell ⟨G,2,none⟩ v') R G M al v rows ls v' []:=by
 have d:=h.hR;have a:=h.hG;have c:=dE W G 2 v';refine⟨by simpa using h.blk.ab 2 _,zg h.nx c (fun b hb hS=>zr h.nx h.blk dM hb hS),h.rows.frm c (fun i r b hr hb hS=>?_),zg ho c (fun b hb hS=>zr ho h.blk dM hb hS),h.rd.frm c (fun k hk e=>oM),h.dr.ag (p:=⟨G,2,none⟩) a _,d,a⟩;obtain⟨f,_,ho⟩:=h.rows.row hr;exact zr ho h.blk dM hb hS
theorem zbX.growRow {row:Value}   {cap gN cN nN:Nat}(h:zbX w0 W R G M al (.slice (some gN) nN cN) rows ls vA acc)(hn:nN=ls.length)(hr:rows[i]?=some row)(hl:ls[i]?=some l)
  (zku:W'.ownsRow w0.heap.size 3 1 (.slice (some g) (l.length+1) cap) (l.length+1) (ints l++[.int .i64 x])) (hg:W.grownBy W' row.ownBlock) (hat:row.ownBlock=some g∨g=W.heap.size+1) :
  (∀ u,W.cell? ⟨G,u,none⟩=W'.cell? ⟨G,u,none⟩)∧Hid (W'.cell? ⟨gN,i,none⟩=some row)∧W'.frozen? ⟨gN,i,none⟩=false ∧
  zbX w0 (W'.setCell ⟨gN,i,none⟩ (.slice (some g) (l.length+1) cap)) R G M al (.slice (some gN) nN cN) (rows.set i (.slice (some g) (l.length+1) cap)) (ls.set i (l++[x])) vA acc:=by
 subst hn;have z:=h.hR;have y:=h.hG;have H:i<ls.length:=(List.getElem?_eq_some_iff.1 hl).1;have t:=h.rows.2.1 i _ l hr hl;have n:Frm (fun k=>row.ownBlock=some k) W W':=Frm.ae hg;obtain⟨B,E⟩:=h.grown t hg;have v:Blk W' G 31 #[.int .i64 al,.slice (some gN) ls.length cN,vA]:=h.blk.frm n (fun e=>zr t h.blk dM e rfl);have a:W'.ownsRow w0.heap.size 128 1 (.slice (some gN) ls.length cN) ls.length rows:=zg h.nx n (fun b hb hS=>zaG h.nx t dM hb hS);have s:W'.ownsRow w0.heap.size 4 1 vA acc.length (zaq acc):=zg h.acc n (fun b hb hS=>zaG h.acc t dM hb hS);have C:=(a.lt gN rfl).1;have q:=h.rows.1;have d:∀ (j:Nat) (r:Value) (b:Nat),j≠i->rows[j]?=some r->r.ownBlock=some b->b≠g:=fun j r b hji hj hb e=>by
  subst e;rcases hat with F|F
  ·exact h.rows.2.2 j i r row b hj hr hji hb F
  ·have:=h.low j r b hj hb;omega
 have f:zH W' w0.heap.size (rows.set i (.slice (some g) (l.length+1) cap)) (ls.set i (l++[x])):=by
  refine⟨by simp [q],fun j r m hj hm=>?_,fun j j' r r' b hj hj' hne hb=>?_⟩
  ·by_cases hji:i=j
   ·subst hji;rw [eQ oM] at hj;rw [eQ H] at hm;obtain rfl:=Option.some.inj hj;obtain rfl:=Option.some.inj hm;simpa [ints] using zku
   ·rw [fL hji] at hj hm;exact zg (h.rows.2.1 j r m hj hm) n (fun b hb hS=>h.rows.2.2 j i r row b hj hr (fun e=>hji e.symm) hb hS)
  ·by_cases hji:i=j
   ·subst hji;rw [eQ oM] at hj;obtain rfl:=Option.some.inj hj;rw [fL hne] at hj';have o:g=b:=by simpa [Value.ownBlock] using hb
    subst o;exact fun hc=>d j' r' _ (fun e=>hne e.symm) hj' hc rfl
   ·rw [fL hji] at hj
    by_cases hji':i=j'
    ·subst hji';rw [eQ oM] at hj';obtain rfl:=Option.some.inj hj';intro hc;have o:g=b:=by simpa [Value.ownBlock] using hc
     exact d j r b (fun e=>hji e.symm) hj hb o.symm
    ·rw [fL hji'] at hj';exact h.rows.2.2 j j' r r' b hj hj' hne hb
 have c:=dE W' gN i (.slice (some g) (l.length+1) cap);refine⟨fun u=>by rw [h.blk.cell,v.cell],za (by rw [a.cellAt i oM,hr]),a.frozenAt i,⟨v.frm c (fun e=>zr a v dM rfl e.symm),?_,?_,zg s c (fun b hb hS=>?_),E.frm c (fun k hk e=>oM),B.ag (p:=⟨gN,i,none⟩) C _,z,y⟩⟩
 ·rw [fH];exact (a.stored i _).1
 ·refine f.frm c (fun j r b hj hb hS=>?_);obtain⟨I,_,D⟩:=f.row hj;subst hS;exact zaG D a dM hb rfl
 ·subst hS;exact zaG s a dM hb rfl
end
def BdL (L:Nat) (ls:List (List Int)) (acc:List Bool):Prop:=ls.length<=L∧acc.length<=L∧∀ l∈ls,l.length<=L
theorem BdL.more {K:Nat} {ls:List (List Int)} {acc:List Bool}(h:BdL L ls acc)(hK:L<=K):BdL K ls acc:=⟨dJ h.1 hK,dJ h.2.1 hK,fun l hl=>dJ (h.2.2 l hl) hK⟩
def BdA (L:Nat) (b:Aut):Prop:=BdL L b.next b.acc
theorem BdA.of (h:zhl b):BdA 16 b:=by
 obtain⟨a,p,ha,hp1,hp,d,f,g,c⟩:=h;exact⟨oM,oM,fun l hl=>by have:=c l hl;have:=zD a 6;omega⟩
theorem tot_le :∀ ls:List (List Int),(∀ l∈ls,l.length<=L)->tot ls<=ls.length*L
 |[],_=>by simp [tot]
 |l :: r,h=>by
  have:=tot_le r (fun x hx=>h x (by simp [hx]))
  have:=h l sM
  rw [tot_cons,fX,Nat.add_mul]
  omega
theorem BdA.size (h:BdA L b)(hL:L<=200):b.size<=1048576:=by
 have a:=tot_le b.next h.2.2;have c:b.next.length*L<=200*200:=Nat.mul_le_mul (dJ h.1 hL) hL;have d:=h.1;have f:=h.2.1;unfold Aut.size;omega
theorem eq_edge (a b c d e f:Int) (w:World):(Op.equalIn 10000 152 (.agg #[a,b,c]) (.agg #[d,e,f])).run Tryz.prog w=.ok (a==d&&(b==e&&c==f)) w:=by
 have i:=Tryz.underlying3;have h:=Tryz.isAgg3;have j:=Tryz.sizeOf3;have g:Tryz.prog.underlying 152=some (.struct (Tryz.prog.fieldsOf 152)):=kM;have hp:Tryz.prog.stoodInHeld 152=false:=kM;rw [show (10000:Nat)=9999+1 from rfl,run_equalIn_agg w 9999 152 _ _ g hp];simp only [Program.fieldsOf,Tryz.underlying152];go_simp
 by_cases h1:a=d<;>by_cases h2:b=e<;>by_cases h3:c=f<;>simp [h1,h2,h3]
end Go.Proofs.YtcfchopfijalpaaGreatDoor
