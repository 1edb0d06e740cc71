/- The referenc -/
import Derived.Test.YtfcjhpodichpjaaGreatDoorQ10
set_option maxHeartbeats 4000000
set_option maxRecDepth 100000
namespace Go.Proofs.YtfcjhpodichpjaaGreatDoor
open Go Go.RowKit
open Bool renaming eq_false_iff->eZ,not_eq_true'->iB
open Ext renaming drew->eR,refl->cW,trans->eE,x1_->fY
open List renaming append_assoc->gO,drop_eq_getElem_cons->fL,getD_eq_getElem?_getD->dI,getElem?_of_mem->dX,getElem?_take_of_lt->iY,length_map->dO,length_take->eO,map_append->eP,map_cons->eQ,mem_of_getElem?->cX,mem_replicate->i7,replicate->dN,take_add_one->dH,take_append_drop->gX,take_of_length_le->dG
open Nat renaming eq_zero_or_pos->gJ,le_of_lt_succ->gG,le_refl->cY,le_trans->dJ,lt_or_eq_of_le->eU,zero_le->dD
open Option renaming toList_some->eD
variable {A C R:Option Addr} {L N b0 c0 cc g0 hi k l lo n nc:Nat} {O T:List Nat} {cols rows:List ByteArray} {f:ByteArray->Bool} {p:Aut} {s:Sys} {t x y:ByteArray} {w:World}
def RetSt (N:Nat) (Q:Nat->Nat->Prop) (w:World) (e:Ending) (w':World):Prop:=
 ∃ (T:List Nat) (g c:Nat),e=.returned (.slice (some g) N c)∧w'.ownsRow w.heap.size 3 1 (.slice (some g) N c) N (zas T)∧zeu T N Q∧Ext w w'
def mset (s:Sys) (x l:Nat):Nat:=if s.al.toNat.testBit l then zbI s.edges x (l:Int) else x
theorem mset_bit (hs:Sml s) (x l q':Nat):(mset s x l).testBit q'=true↔∃ q,x.testBit q=true∧q'∈cho s q l:=by
 unfold mset;split
 ·rename_i h;exact ziU hs h x q'
 ·rename_i h;constructor
  ·intro b;exact⟨q',b,by unfold cho;rw [if_neg h];simp⟩
  ·rintro ⟨q,b,a⟩;unfold cho at a;rw [if_neg h] at a;simp at a;rw [a];exact b
theorem mset_lt (hs:Sml s) {x:Nat}(hx:x<65536) (l:Nat):mset s x l<65536:=by
 unfold mset;split
 ·exact zhZ hs _ _
 ·exact hx
structure MvI (s:Sys) (p:Aut) (l N:Nat) (T:List Nat) (k:Nat) (O:List Nat):Prop where
 len:O.length=N
 lt:∀ x∈O,x<65536
 bit:∀ j q',bitS O j q'↔∃ i q,i<k∧bitS T i q∧q'∈cho s q l∧j=aGo p i l
theorem MvI.step (h:MvI s p l N T k O)(hs:Sml s)(hp:zh p=true)(hN:N=p.next.length)(hT:∀ x∈T,x<65536)(hk:k<N)(hl:l<6) :
  MvI s p l N T (k+1) (O.set (aGo p k l) (O.getD (aGo p k l) 0|||mset s (T.getD k 0) l)):=by
 have m:aGo p k l<O.length:=by rw [h.len,hN];exact zfF hp oM hl
 refine⟨by rw [List.length_set];exact h.len,fun x f=>?_,fun j q'=>?_⟩
 ·rcases List.mem_or_eq_of_mem_set f with f|rfl
  ·exact h.lt x f
  ·exact Nat.or_lt_two_pow (n:=16) (zex h.lt _) (mset_lt hs (zex hT _) _)
 ·rw [zig m,h.bit,mset_bit hs];constructor
  ·rintro (⟨i,q,c,a,b,d⟩|⟨c,q,a,b⟩)
   ·exact⟨i,q,oM,a,b,d⟩
   ·exact⟨k,q,oM,a,b,c⟩
  ·rintro ⟨i,q,c,a,b,d⟩;rcases eU (gG c) with g|rfl
   ·exact .inl ⟨i,q,g,a,b,d⟩
   ·exact .inr ⟨d,q,a,b⟩
theorem MvI.zero (s:Sys) (p:Aut) (l N:Nat) (T:List Nat):MvI s p l N T 0 (dN N 0):=by
 refine⟨sM,fun x hx=>by rw [i7] at hx;omega,fun j q'=>?_⟩;constructor
 ·intro h;unfold bitS at h;rw [dI] at h;cases h1:(dN N 0)[j]? with
  |none=>rw [h1] at h;simp at h
  |some x =>
   have:=cX h1;rw [i7] at this;rw [h1,this.2] at h;simp at h
 ·rintro ⟨_,_,h,_⟩;omega
theorem MvI.fin {B:Nat->Nat->Prop}(h:MvI s p l N T N O)(hT:zeu T N B):zeu O N (mvB s p l B):=by
 refine⟨h.len,h.lt,fun j q'=>?_⟩;rw [h.bit];constructor
 ·rintro ⟨i,q,f,a,b,c⟩;exact⟨q,i,(hT.2.2 i q).1 a,b,c⟩
 ·rintro ⟨q,i,a,b,c⟩;have d:=(hT.2.2 i q).2 a;exact⟨i,q,by rw [← hT.1];exact bitS_lt d,d,b,c⟩
def badT (p:Aut) (T:List Nat) (N:Nat):Bool:=(List.range N).any fun i=>T.getD i 0 != 0&&!zdr p i
theorem zie :badT p T N=true↔∃ i,i<N∧T.getD i 0≠0∧zdr p i=false:=by
 unfold badT;rw [List.any_eq_true];constructor
 ·rintro ⟨i,b,a⟩;rw [List.mem_range] at b;simp only [Bool.and_eq_true,bne_iff_ne,iB] at a;exact⟨i,b,a.1,a.2⟩
 ·rintro ⟨i,b,a,c⟩;exact⟨i,List.mem_range.2 b,by simp [c];simpa using a⟩
section
variable {w:World} {lo hi n c m d m' d' L:Nat} {A B B':Option Addr} {s:Sys} {p:Aut}
theorem spec_l9Start (hS:zR w lo hi A n s)(hP:zI w lo hi B m B' m' p)(hv:zl s=true)(hp:zh p=true)(hL:L<64)(hhi:hi<=w.heap.size)(hN:N=p.next.length) :
  Calls Tryz.prog 256 #[.agg #[s.al,s.st,.slice A n c,p.al,.slice B m d,.slice B' m' d',L]] w (RetSt N (PR s p L []) w):=by
 have M:m=N:=hP.n1.trans hN.symm;subst M;have g:1<=m∧m<=12:=by have:=(zk hp).2.1;omega
 have F:=za (fun W (hW:Ext w W)=>hS.ext hW);have E:=za (fun W (hW:Ext w W)=>hP.ext hW);have D:=za hN;clear hS hP hN
 go_enter Tryz.func256,Tryz.ntmps256
 go_upto_region 1 with fail
 generalize U0:w.alloc _=l at *;obtain⟨a,r⟩:=fY U0;have H:=r.lt;clear U0;have C:=r.cell;go_upto_region 2 with (at_make;refine zbD l l rfl _ _ 74 rfl 3 _ 1 8 Tryz.underlying74 zae _ _ m rfl rfl (cW _) oM lM ?_;intro w2 hx2 zjm hx23 hsz2)
 rw [madeZ] at zjm;have j:=(zjm.stored 0 (.int .i64 1)).1;rw [show (zas (dN m 0)).set 0 (.int .i64 1)=zas ((dN m 0).set 0 1) from (zgl (i:=0) (v:=1) (R:=dN m 0)).symm] at j;have J:=zjm.frozenAt 0;have I:=zdg zjm (show 0<m by omega);have f:=(a.trans hx2).setCell (p:=⟨l.heap.size,0,none⟩) a.size (.int .i64 1);have z:=(r.ext hx2).far (p:=⟨l.heap.size,0,none⟩) (by dsimp only;omega) (.int .i64 1);have G:(0:Int)<(m:Int):=oM;clear C;have C:=z.cell;have Q:=za (fun o (hT':zeu o m (fun q i=>q=0∧i=0))=>hT');have u:=F.out _ f;have t:=E.out _ f;have x:=stand_start g.1;have O:=a.size;clear hx23;go_wp2_with fail
 refine (zfP (c:=c) (d:=d) (d':=d') u t hv hp hL D.out oM j x).mono ?_;rintro e S ⟨o,rfl,b,y,h⟩;go_wp2_with fail
 go_ret;exact⟨o,l.heap.size,m,rfl,zn b a.size,y,f.frm h (fun k hk e=>oM)⟩
theorem spec_l9Move {Q:Nat->Nat->Prop}(hS:zR w lo hi A n s)(hP:zI w lo hi B m B' m' p)(hv:zl s=true)(hp:zh p=true)(hL:L<64)(hhi:hi<=w.heap.size)(hN:N=p.next.length)(hl:l<6)
  (zjc:w.ownsRow b0 3 1 (.slice (some g0) N c0) N (zas T)) (hT:zeu T N Q) :
  Calls Tryz.prog 258 #[.agg #[s.al,s.st,.slice A n c,p.al,.slice B m d,.slice B' m' d',L],.slice (some g0) N c0,l] w (RetSt N (Cl s p L (mvB s p l Q)) w):=by
 have D:=zcR hv;obtain⟨aF,aG⟩:=zQ hv;obtain⟨al,C⟩:∃ al:Nat,Hid (s.al=al):=⟨s.al.toNat,by unfold Hid;omega⟩;have am:al<64:=oH C.out;have U:=za (show s.al.toNat=al by have:=C.out;omega);have aw:1<=N∧N<=12:=by have:=(zk hp).2.1;omega
 have HS:=za (fun W (hW:Ext w W)=>hS.ext hW);have HP:=za (fun W (hW:Ext w W)=>hP.ext hW);have J:=za hN;have HT:=za hT;have aI:=(zjc.lt g0 rfl).2;clear hS hP hN hT
 go_enter Tryz.func258,Tryz.ntmps258
 go_upto_region 1 with fail
 generalize U0:w.alloc _=w1 at *;obtain⟨V,b1⟩:=fY U0;have aH:=b1.lt;clear U0;go_wp2_with (at_make;refine zbD w1 w1 rfl _ _ 74 rfl 3 _ 1 8 Tryz.underlying74 zae _ _ N rfl rfl (cW _) oM lM ?_;intro w2 hx2 zjm hx23 hsz2)
 rw [madeZ] at zjm;have az:=V.size;have ap:=V.trans hx2;clear hx23;obtain⟨r,S⟩:∃ r,r=w1.heap.size:=⟨_,rfl⟩;rw [← S] at zjm ⊢;have aE:w.heap.size<r:=oM;clear S
 go_loopw [8] (fun iv wr=>∃ (i:Nat) (O:List Nat),iv=.int .i64 i∧i<=N∧Hid (MvI s p l N T i O)∧wr.ownsRow r 3 1 (.slice (some r) N N) N (zas O)∧Frm (fun k=>k=r) w2 wr) (fun iv _=>N - (intOf iv).toNat)
 case atStart=>exact⟨0,_,rfl,dD _,za (MvI.zero s p l N T),zjm,Frm.refl _ _⟩
 case round =>
  clear zjm;obtain⟨i,O,rfl,hi,hO,f,t⟩:=hrel;have h:Ext w wr:=ap.frm t (fun k hk e=>oM);have k1:=((b1.ext hx2).frm t oM).cell
  by_cases hlt:i<N
  ·have ay:(i:Int)<(N:Int):=oM;have cI:=zdg (zg zjc h) hlt;obtain⟨x,hx⟩:∃ x,Hid (T.getD i 0=x):=⟨_,rfl⟩;have X:x<65536:=by rw [← hx.out];exact zex HT.out.2.1 i
   rw [hx.out] at cI;have CB:∀ W,Ext wr W->∀ q,W.cell? ⟨w.heap.size,q,none⟩=#[Value.int .i64 al,.int .i64 s.st,.slice A n c,.int .i64 p.al,.slice B m d,.slice B' m' d',.int .i64 L][q]?:=fun W hW q=>by rw [(((b1.ext hx2).frm t oM).ext hW).cell,C.out]
   have CI:∀ W,Ext wr W->W.cell? ⟨g0,i,none⟩=some (.int .i64 (x:Nat)):=fun W hW=>hW.aa cI;obtain⟨j,hj⟩:∃ j,Hid (aGo p i l=j):=⟨_,rfl⟩;have an:j<N:=by rw [← hj.out,J.out];exact zfF hp (by rw [← J.out];exact hlt) hl
   have ax:(j:Int)<(N:Int):=oM;obtain⟨v,H⟩:∃ v,Hid (O.getD j 0=v):=⟨_,rfl⟩;obtain⟨y,hy⟩:∃ y,Hid (mset s x l=y):=⟨_,rfl⟩;obtain⟨u,hu⟩:∃ u,Hid (v|||y=u):=⟨_,rfl⟩;have aB:v<65536:=by rw [← H.out];exact zex hO.out.lt j
   have aC:y<65536:=by rw [← hy.out];exact mset_lt D X l
   have ao:=zbz (a:=v) (b:=y) tM tM;rw [hu.out] at ao;have CJ:∀ W,Ext wr W->W.cell? ⟨r,j,none⟩=some (.int .i64 (v:Nat)):=fun W hW=>hW.aa (H.out ▸ zdg f an);have FJ:∀ W,Ext wr W->W.frozen? ⟨r,j,none⟩=false:=fun W hW=>(zg f hW).frozenAt j;have g:=hO.out.step D hp J.out HT.out.2.1 hlt hl;rw [hj.out,H.out,hx.out,hy.out,hu.out] at g;have o:=za g;have M:=za (fun W (hW:Ext wr W)=>((zg f hW).stored j (.int .i64 (u:Nat))).1);have aJ:=cW wr;clear g k1 cI;cases hb:al.testBit l
   ·have Hb:=za hb;have I:x=y:=by rw [← hy.out];unfold mset;rw [U.out,hb];rfl
    subst I;clear hb;go_wp2_with (first
     |(go_at_call 112;refine (zao al l tM _ oM).mono ?_;rw [Hb.out];rintro e w' ⟨rfl,rfl⟩)
     |(go_at_call 172;refine (zcU (HP.out _ h) hp (by rw [← J.out];exact hlt) hl).mono ?_;rw [hj.out];rintro e w4 ⟨rfl,E⟩))
    have z:=M.out w4 E;rw [← zgl] at z;go_roundw
    case rel=>exact⟨i+1,O.set j u,gM,oM,o,z,(t.ext E).trans (Frm.setCell _ r j _)⟩
    case measure=>simp [intOf];omega
   ·have Hb:=za hb;have I:Hid (zbI s.edges x (l:Int)=y):=by unfold Hid;rw [← hy.out];unfold mset;rw [U.out,hb];rfl
    clear hb;go_wp2_with (first
     |(go_at_call 112;refine (zao al l tM _ oM).mono ?_;rw [Hb.out];rintro e w' ⟨rfl,rfl⟩)
     |(go_at_call 241;rw [← C.out];refine (zeL (c:=c) (k0:=s.st.toNat) (HS.out _ h) D.2.2.1 (oH D.2.1) tM).mono ?_;rw [I.out];rintro e w3 ⟨rfl,Y⟩;have Z:=h.trans Y)
     |(go_at_call 172;refine (zcU (HP.out _ Z) hp (by rw [← J.out];exact hlt) hl).mono ?_;rw [hj.out];rintro e w4 ⟨rfl,E⟩;have F:=Y.trans E))
    have z:=M.out w4 F;rw [← zgl] at z;go_roundw
    case rel=>exact⟨i+1,O.set j u,gM,oM,o,z,(t.ext F).trans (Frm.setCell _ r j _)⟩
    case measure=>simp [intOf];omega
  ·obtain rfl:i=N:=oM;have au:=hO.out.fin HT.out;go_wp2_with fail
   refine (zfP (c:=c) (d:=d) (d':=d') (HS.out _ h) (HP.out _ h) hv hp hL J.out oM f au).mono ?_;rintro e w4 ⟨T',rfl,G,ak,R⟩;go_wp2_with fail
   go_ret;exact⟨T',r,i,rfl,zn G oM,ak,h.frm R (fun k hk e=>oM)⟩
end
noncomputable def zy (s:Sys) (p:Aut) (L:Nat) (t:ByteArray):Bool:=by
 classical exact inB t L&&decide (SafeW s p L (wl t))
theorem zgZ :zy s p L t=true↔inB t L=true∧SafeW s p L (wl t):=by
 unfold zy;simp
section
variable {w:World} {lo hi n c m d m' d' L:Nat} {A B B':Option Addr} {s:Sys} {p:Aut}
theorem spec_l9Bad (hP:zI w lo hi B m B' m' p)(hp:zh p=true)(hN:N=p.next.length)
  (zjc:w.ownsRow b0 3 1 (.slice (some g0) N c0) N (zas T)) :
  Calls Tryz.prog 257 #[.agg #[s.al,s.st,.slice A n c,p.al,.slice B m d,.slice B' m' d',L],.slice (some g0) N c0] w fun e w'=>e=.returned (.bool (badT p T N))∧Ext w w':=by
 have u:1<=N∧N<=12:=by have:=(zk hp).2.1;omega
 have o:m'=N:=by rw [hP.n2,(zk hp).2.2.1,hN]
 have z:=za (fun W (hW:Ext w W) q hq=>zcJ (q:=q) (hP.ext hW) hq);obtain⟨y,U0⟩:∃ x,Hid (w.alloc (.cells #[s.al,s.st,.slice A n c,p.al,.slice B m d,.slice B' m' d',L] 199)=x):=⟨_,za rfl⟩;have b:Ext w y:=((cW _).alloc _).trans (Ext.eq_ U0.out);have C:=Ext.bl_ U0.out;subst o;clear hP hN
 go_enter Tryz.func257,Tryz.ntmps257
 go_upto_region 1 with fail
 rw [U0.out] at *;have I:=C.cell;go_wp2_with fail
 go_loop [5] (fun iv=>∃ i:Nat,iv=.int .i64 i∧i<=m'∧Hid (∀ j,j<i->T.getD j 0=0∨zdr p j=true)) (fun iv=>m' - (intOf iv).toNat)
 case atStart=>exact⟨0,rfl,dD _,za (fun j h=>oM)⟩
 case round =>
  obtain⟨i,rfl,hi,a⟩:=hrel
  by_cases hlt:i<m'
  ·have v:(i:Int)<(m':Int):=oM;obtain⟨H,rfl,t⟩:=z.out y b i hlt;have D:=zdg (zg zjc b) hlt;obtain⟨x,r⟩:∃ x,Hid (T.getD i 0=x):=⟨_,rfl⟩;rw [r.out] at D
   by_cases h0:x=0
   ·subst h0;go_wp2_with fail
    go_round
    case rel=>exact⟨i+1,gM,oM,za (fun j hj=>by
     rcases eU (gG hj) with g|rfl
     ·exact a.out j g
     ·exact .inl r.out)⟩
    case measure=>simp [intOf];omega
   ·have G:((x:Int) != 0)=true:=by simp;omega
    cases zjd:zdr p i
    ·have l:=za (show badT p T m'=true from zie.2 ⟨i,hlt,by rw [r.out];exact h0,zjd⟩);rw [zjd] at t;clear zjd h0;go_wp2_with fail
     go_ret;exact⟨zj (by rw [l.out]),b⟩
    ·have f:=za zjd;rw [zjd] at t;clear zjd h0;go_wp2_with fail
     go_round
     case rel=>exact⟨i+1,gM,oM,za (fun j hj=>by
      rcases eU (gG hj) with g|rfl
      ·exact a.out j g
      ·exact .inr f.out)⟩
     case measure=>simp [intOf];omega
  ·obtain rfl:i=m':=oM;have l:=za (show badT p T i=false by
    rw [eZ];intro h;obtain⟨j,g,E,F⟩:=zie.1 h;rcases a.out j g with k|k
    ·exact E k
    ·rw [F] at k;cases k)
   go_wp2_with fail
   go_ret;exact⟨zj (by rw [l.out]),b⟩
theorem zek (hS:zR w lo hi A n s)(hP:zI w lo hi B m B' m' p)(hv:zl s=true)(hp:zh p=true)(hL:L<64) :
  Calls Tryz.prog 254 #[.agg #[s.al,s.st,.slice A n c,p.al,.slice B m d,.slice B' m' d',L]] w fun e w'=>e=.returned (.bool true)∧Ext w w':=by
 have j:=za (fun W (hW:Ext w W)=>zah (c:=c) (hS.ext hW));have i:=za (fun W (hW:Ext w W)=>zH _ _ _ _ d _ _ d' _ _ (hP.ext hW));rw [hv] at j;rw [hp] at i;have g:=za (show (decide ((0:Int)<=L∧(L:Int)<=63))=true by simp;omega);clear hS hP hv hp
 go_enter Tryz.func254,Tryz.ntmps254
 go_upto_region 1 with fail
 generalize U0:w.alloc _=o at *;obtain⟨a,k⟩:=fY U0;clear U0;have q:=k.cells;have l:=cW o;go_wp2_with (first
  |(go_at_call 94;refine (j.out _ a).mono (mQ fun r b=>?_))
  |(go_at_call 27;refine (i.out _ (a.trans b)).mono (mQ fun t h=>?_);have f:=b.trans h)
  |(go_at_call 59;refine (zS _ _).mono ?_;rw [g.out];rintro e u ⟨rfl,rfl⟩))
 go_ret;exact⟨rfl,a.trans f⟩
theorem zif {v:List Nat}(h:zeu T N (PR s p L (v.take k))):badT p T N=true↔Bad s p L (v.take k):=zie.trans (stand_bad h).symm
theorem zfg (hS:zR w lo hi A n s)(hP:zI w lo hi B m B' m' p)(hv:zl s=true)(hp:zh p=true)(hL:L<64)(hhi:hi<=w.heap.size)(ht:t.size<=9223372036854775807) :
  Calls Tryz.prog 233 #[.agg #[s.al,s.st,.slice A n c,p.al,.slice B m d,.slice B' m' d',L],t] w fun e w'=>e=.returned (.bool (zy s p L t))∧Ext w w':=by
 obtain⟨N,hN⟩:∃ N,Hid (N=p.next.length):=⟨_,rfl⟩;have HV:=za (fun W (hW:Ext w W)=>zek (c:=c) (d:=d) (d':=d') (L:=L) (hS.ext hW) (hP.ext hW) hv hp hL);have X:=za (fun W (hW:Ext w W)=>spec_l9Start (c:=c) (d:=d) (d':=d') (L:=L) (N:=N) (hS.ext hW) (hP.ext hW) hv hp hL (dJ hhi hW.size) hN.out);have U:=za (fun (g0 D c0:Nat) (T:List Nat) W (hW:Ext w W) (ho:W.ownsRow D 3 1 (.slice (some g0) N c0) N (zas T))=>spec_l9Bad (A:=A) (n:=n) (c:=c) (d:=d) (d':=d') (L:=L) (s:=s) (hP.ext hW) hp hN.out ho);have HM:=za (fun (l g0 D c0:Nat) (T:List Nat) (Q:Nat->Nat->Prop) W (hW:Ext w W) (M:l<6) (ho:W.ownsRow D 3 1 (.slice (some g0) N c0) N (zas T)) (y:zeu T N Q)=>spec_l9Move (c:=c) (d:=d) (d':=d') (L:=L) (hS.ext hW) (hP.ext hW) hv hp hL (dJ hhi hW.size) hN.out M ho y);have a:Ext w (w.alloc (.cells #[s.al,s.st,.slice A n c,p.al,.slice B m d,.slice B' m' d',L] 199)):=(cW _).alloc _;have b1:=Blk.new w 199 #[s.al,s.st,.slice A n c,p.al,.slice B m d,.slice B' m' d',L];clear hS hP;cases hin:inB t L
 ·have x:=za hin;have u:=za (show zy s p L t=false by rw [eZ];intro h;have:=(zgZ.1 h).1;rw [hin] at this;cases this);clear hin
  go_enter Tryz.func233,Tryz.ntmps233
  go_upto_region 1 with fail
  generalize w.alloc _=S at *;have CB:=b1.cells;have ag:=cW S;go_wp2_with (first
   |(go_at_call 254;refine (HV.out _ a).mono (mQ fun w2 q=>?_))
   |(go_at_call 140;refine (zad ht oM).mono ?_;rw [x.out];rintro e w3 ⟨rfl,rfl⟩))
  go_ret;exact⟨zj (by rw [u.out]),a.trans q⟩
 ·have x:=za hin;have Z:=za (fun k hk=>zaQ (zaW hin) (k:=k) hk);clear hin
  go_enter Tryz.func233,Tryz.ntmps233
  go_upto_region 1 with fail
  generalize w.alloc _=S at *;have CB:=b1.cells;have ag:=cW S;go_wp2_with (first
   |(go_at_call 254;refine (HV.out _ a).mono (mQ fun w2 q=>?_))
   |(go_at_call 140;refine (zad ht oM).mono ?_;rw [x.out];rintro e w3 ⟨rfl,rfl⟩)
   |(go_at_call 256;refine (X.out _ (a.trans q)).mono ?_;rintro e w4 ⟨T,g,H,rfl,f,y,R⟩;have C:=q.trans R))
  go_loopw [5,6] (fun v iv wr=>∃ (k g D H:Nat) (T:List Nat),iv=.int .i64 k∧k<=t.size∧v=.slice (some g) N H∧wr.ownsRow D 3 1 (.slice (some g) N H) N (zas T)∧Hid (zeu T N (PR s p L ((wl t).take k)))∧Hid (∀ j,j<k->¬ Bad s p L ((wl t).take j))∧Ext S wr) (fun _ iv _=>t.size - (intOf iv).toNat)
  case atStart=>exact⟨0,g,_,H,T,rfl,dD _,rfl,f,za (by simpa using y),za (fun j h=>oM),C⟩
  case round =>
   clear f y q R C;obtain⟨k,g,D,H,T,rfl,hk,rfl,f,y,o,b⟩:=hrel
   by_cases hlt:k<t.size
   ·have am:(k:Int)<(t.size:Int):=oM;obtain⟨l,M⟩:∃ l:Nat,Hid ((t[k].toNat:Int) - 97=l):=⟨t[k].toNat - 97,by unfold Hid;have:=Z.out k hlt;omega⟩;have ad:l<6:=by have:=M.out;have:=Z.out k hlt;omega
    have af:=za (show (wl t).take (k+1)=(wl t).take k++[l] by rw [dH,zep hlt,eD,show t[k].toNat - 97=l by have:=M.out;have:=Z.out k hlt;omega]);cases hbad:badT p T N
    ·have i:=za hbad;have ae:=za (show ¬ Bad s p L ((wl t).take k) by rw [← zif y.out,hbad];decide);clear hbad;go_wp2_with (first|(go_at_call 257;refine (U.out _ _ _ _ _ (a.trans b) f).mono ?_;rw [i.out];rintro e w5 ⟨rfl,z⟩;have r:=b.trans z))
     have I:=za (fun W (hW:Ext wr W)=>HM.out l g D H T _ W ((a.trans b).trans hW) ad (zg f hW) y.out);have V:=fun W (hW:Ext wr W)=>CB W (b.trans hW)
     go_region_held3 (fun W=>Ext wr W) (first|assumption|(refine eR ?_;assumption)|(refine eE ?_ aM;assumption)|(refine eE ?_ aM;refine eR ?_;assumption)) (first
      |(go_at_call 62;refine (zbk t k hlt _).mono ?_;rw [M.out];rintro e w6 ⟨rfl,rfl⟩)
      |(go_at_call 258;refine (I.out _ ?_).mono ?_;(first|assumption|(refine eR ?_;assumption));rintro e w7 ⟨T7,g7,c7,rfl,F,E,av⟩))
     have O:Ext S w7:=b.trans aM;rw [← PR_snoc,← af.out] at E;have Y:=za E;clear E I V;go_wp2_with fail
     go_roundw
     case rel=>exact⟨k+1,g7,_,c7,T7,gM,oM,rfl,F,Y,za (fun j hj=>by
      rcases eU (gG hj) with h1|rfl
      ·exact o.out j h1
      ·exact ae.out),O⟩
     case measure=>simp [intOf];omega
    ·have i:=za hbad;have u:=za (show zy s p L t=false by
      rw [eZ];intro h;exact (zgZ.1 h).2 k (by rw [zeq];omega) ((zif y.out).1 hbad))
     clear hbad;go_wp2_with (first
      |(go_at_call 257;with_reducible refine (U.out _ _ _ _ _ (a.trans b) f).mono ?_;rw [i.out];rintro e w5 ⟨rfl,z⟩;have r:=b.trans z)
      |(go_at_call 257;refine (U.out _ _ _ _ _ (a.trans r) (zg f z)).mono ?_;rw [i.out];rintro e w6 ⟨rfl,G⟩))
     go_ret;exact⟨zj (by rw [u.out]),a.trans (r.trans G)⟩
   ·have J:k=t.size:=oM;have au:(t.size:Int)<=(k:Int):=oM;have u:=za (show zy s p L t=!badT p T N by
     rw [Bool.eq_iff_iff,zgZ,iB,← Bool.not_eq_true,zif y.out];constructor
     ·intro h;exact h.2 k (by rw [zeq];omega)
     ·intro h;refine⟨x.out,fun j hj=>?_⟩;rw [zeq] at hj;rcases eU hj with h1|rfl
      ·exact o.out j oM
      ·rw [J] at h;exact h)
    clear J hlt hk;go_wp2_with (first
     |(go_at_call 257;refine (U.out _ _ _ _ _ (a.trans b) f).mono (mQ fun w6 G=>?_)))
    go_ret;exact⟨zj (by rw [u.out]),a.trans (b.trans G)⟩
end
structure Tch (w:World) (A:Option Addr) (n:Nat) (B:Option Addr) (m:Nat) (B':Option Addr) (m':Nat) (s:Sys) (p:Aut) (L:Nat):Prop where
 at_:∃ lo hi,zR w lo hi A n s∧zI w lo hi B m B' m' p∧hi<=w.heap.size
 sv:zl s=true
 pv:zh p=true
 lt:L<64
section
variable {w W:World} {n c m d m' d' L:Nat} {A B B':Option Addr} {s:Sys} {p:Aut}
theorem Tch.ext (h:Tch w A n B m B' m' s p L)(hx:Ext w W):Tch W A n B m B' m' s p L:=by
 obtain⟨f,d,a,b,c⟩:=h.at_;exact⟨⟨f,d,a.ext hx,b.ext hx,dJ c hx.size⟩,h.sv,h.pv,h.lt⟩
theorem zaO (h:Tch w A n B m B' m' s p L) :
  Calls Tryz.prog 228 #[.agg #[.bool false,(0:Int),(),(),s.al,s.st,.slice A n c,p.al,.slice B m d,.slice B' m' d',L]] w fun e w'=>e=.returned (.int .i64 (L:Nat))∧Ext w w':=by
 obtain⟨t,r,f,g,q⟩:=h.at_;have i:=za (fun W (hW:Ext w W)=>zek (c:=c) (d:=d) (d':=d') (L:=L) (f.ext hW) (g.ext hW) h.sv h.pv h.lt);clear h f g
 go_enter Tryz.func228,Tryz.ntmps228
 go_upto_region 1 with fail
 generalize U0:w.alloc _=l at *;obtain⟨a,j⟩:=fY U0;clear U0;have o:=j.cells;have k:=cW l;go_wp2_with (first
  |(go_at_call 254;refine (i.out _ a).mono (mQ fun u b=>?_)))
 go_ret;exact⟨rfl,a.trans b⟩
theorem zdG (h:Tch w A n B m B' m' s p L)(ht:t.size<=9223372036854775807) :
  Calls Tryz.prog 255 #[.agg #[.bool false,(0:Int),(),(),s.al,s.st,.slice A n c,p.al,.slice B m d,.slice B' m' d',L],t] w fun e w'=>e=.returned (.bool (zy s p L t))∧Ext w w':=by
 obtain⟨u,r,f,g,k⟩:=h.at_;have i:=za (fun W (hW:Ext w W)=>zfg (c:=c) (d:=d) (d':=d') (L:=L) (t:=t) (f.ext hW) (g.ext hW) h.sv h.pv h.lt (dJ k hW.size) ht);clear h f g
 go_enter Tryz.func255,Tryz.ntmps255
 go_upto_region 1 with fail
 generalize U0:w.alloc _=o at *;obtain⟨a,j⟩:=fY U0;clear U0;have q:=j.cells;have l:=cW o;go_wp2_with (first
  |(go_at_call 233;refine (i.out _ a).mono (mQ fun v b=>?_)))
 go_ret;exact⟨rfl,a.trans b⟩
end
theorem str_loop (b:ByteArray):∀ (k:Nat) (i:Nat) (r:List UInt8),b.size - i=k->ByteArray.toList.loop b i r=r.reverse++b.data.toList.drop i:=by
 intro k
 induction k with
 |zero =>
  intro i r h;unfold ByteArray.toList.loop;rw [if_neg oM,List.drop_of_length_le (by rw [Array.length_toList];show b.size<=i;omega),List.append_nil]
 |succ k ih =>
  intro i r h;have a:i<b.size:=oM;unfold ByteArray.toList.loop;rw [if_pos a,ih (i+1) _ oM,fL (i:=i) (by rw [Array.length_toList];exact a),List.reverse_cons,gO];have e:b.get! i=b.data.toList[i]'(by rw [Array.length_toList];exact a):=by
   rw [Array.getElem_toList];show b.data[i]! = _;exact getElem!_pos b.data i a
  rw [e];rfl
theorem str_data (b:ByteArray):b.toList=b.data.toList:=by
 unfold ByteArray.toList;rw [str_loop b _ 0 [] rfl];rfl
theorem str_ext (h:x.toList=y.toList):x=y:=by
 rw [str_data,str_data] at h;cases x;cases y
 congr 1
 exact Array.toList_inj.1 h
theorem str_ne (h:¬ x=y):(x.toList==y.toList)=false:=by
 rw [beq_eq_false_iff_ne];exact fun e=>h (str_ext e)
noncomputable def zgP (l:List ByteArray) (x:ByteArray):Bool:=by classical exact decide (x∈l)
theorem zdP {l:List ByteArray} :zgP l x=true↔x∈l:=by unfold zgP;simp
theorem zcq {l:List ByteArray} :zgP l x=false↔x∉l:=by rw [← Bool.not_eq_true,zdP]
theorem zcT {c:Nat}  {l:List ByteArray} (h:Reads w lo hi 1 A n (zM l)) :
  Calls Tryz.prog 261 #[.slice A n c,x] w fun e w'=>e=.returned (.bool (zgP l x))∧w=w':=by
 have t:=h.len;have g:l.length=n:=by have:=h.length;rw [zbC] at this;omega
 have p:=za g;clear g
 go_enter Tryz.func261,Tryz.ntmps261
 go_wp2_with fail
 go_loop [5] (fun iv=>∃ i:Nat,iv=.int .i64 i∧i<=n∧Hid (∀ j,j<i->l[j]?≠some x)) (fun iv=>n - (intOf iv).toNat)
 case atStart=>exact⟨0,rfl,dD _,za (fun j h=>oM)⟩
 case round =>
  obtain⟨i,rfl,hi,a⟩:=hrel
  by_cases hlt:i<n
  ·have k:(i:Int)<(n:Int):=oM;obtain⟨r,y,rfl,_,_,m,s⟩:=h.str hlt
   by_cases he:y=x
   ·subst he;have d:=za (zdP.2 (cX m.out));go_wp2_with fail
    go_ret;exact⟨zj (by rw [d.out]),rfl⟩
   ·have o:=za he;have f:=str_ne he;clear he;go_wp2_with fail
    go_round
    case rel=>exact⟨i+1,gM,oM,za (fun j b=>by
     rcases eU (gG b) with q|rfl
     ·exact a.out j q
     ·rw [m.out];intro h;exact o.out (Option.some.inj h))⟩
    case measure=>simp [intOf];omega
  ·obtain rfl:i=n:=oM;have d:=za (show zgP l x=false by
    rw [zcq];intro hx;obtain⟨j,b⟩:=dX hx;exact a.out j (by have:=(List.getElem?_eq_some_iff.1 b).1;have:=p.out;omega) b)
   go_wp2_with fail
   go_ret;exact⟨zj (by rw [d.out]),rfl⟩
def zdw (f:ByteArray->Bool) (cols:List ByteArray) (x:ByteArray):List Bool:=cols.map fun c=>f (x++c)
def mkB (b:Bool):ByteArray:=if b then ⟨#[43]⟩ else ⟨#[45]⟩
def mkS (bs:List Bool):ByteArray:=bs.foldl (fun o b=>o++mkB b) ByteArray.empty
theorem mkS_snoc (bs:List Bool) (b:Bool):mkS (bs++[b])=mkS bs++mkB b:=by simp [mkS]
theorem zgk:∀ (bs:List Bool),(mkS bs).data.toList=bs.map fun b=>if b then 43 else 45:=by
 have a:∀ (bs:List Bool) (o:ByteArray),(bs.foldl (fun o b=>o++mkB b) o).data.toList=o.data.toList++bs.map fun b=>if b then 43 else 45:=by
  intro bs
  induction bs with
  |nil=>intro o;simp
  |cons b r ih =>
   intro o;rw [List.foldl_cons,ih,ByteArray.data_append,Array.toList_append,gO,eQ];cases b<;>rfl
 intro bs;unfold mkS;rw [a];rfl
theorem map_inj' {α β:Type} {f:α->β}(hf:∀ x y,f x=f y->x=y):∀ {a b:List α},a.map f=b.map f->a=b
 |[],[],_=>rfl
 |[],_ :: _,h=>by simp at h
 |_ :: _,[],h=>by simp at h
 |x :: a,y :: b,h=>by
  simp only [eQ,List.cons.injEq] at h
  rw [hf x y h.1,map_inj' hf h.2]
theorem mkS_inj {a b:List Bool}(h:mkS a=mkS b):a=b:=by
 have c:(mkS a).data.toList=(mkS b).data.toList:=by rw [h]
 rw [zgk,zgk] at c;exact map_inj' (fun x y=>by cases x<;>cases y<;>simp) c
theorem mkS_size (bs:List Bool):(mkS bs).size=bs.length:=by
 have h:=congrArg List.length (zgk bs);rw [dO,Array.length_toList] at h;exact h
section
variable {w W:World} {n c m d m' d' L:Nat} {A B B':Option Addr} {s:Sys} {p:Aut}
theorem zeK (h:Tch w A n B m B' m' s p L)(hC:Reads w lo hi 1 C nc (zM cols))(hc:nc<=1000)(hx:x.size<=1000000)(hcs:∀ y∈cols,y.size<=1000000) :
  Calls Tryz.prog 231 #[.agg #[.bool false,(0:Int),(),(),s.al,s.st,.slice A n c,p.al,.slice B m d,.slice B' m' d',L],.slice C nc cc,x] w fun e w'=>e=.returned (.string (mkS (zdw (zy s p L) cols x)))∧Ext w w':=by
 have D:cols.length=nc:=by have:=hC.length;rw [zbC] at this;omega
 have O:=za (fun W (hW:Ext w W) (y:ByteArray) l=>zdG (c:=c) (d:=d) (d':=d') (t:=y) (h.ext hW) l);have M:=za (fun W (hW:Ext w W)=>hC.ext hW);have Q:=za D;have q:=za hcs;clear h hC D hcs
 go_enter Tryz.func231,Tryz.ntmps231
 go_upto_region 1 with fail
 generalize U0:w.alloc _=H at *;obtain⟨f,S⟩:=fY U0;clear U0;have I:=S.cells;go_wp2_with fail
 go_loopw [7,8] (fun v iv wr=>∃ (k:Nat) (o:ByteArray),iv=.int .i64 k∧k<=nc∧v=.string o∧o.size<=k∧Hid (o=mkS (zdw (zy s p L) (cols.take k) x))∧Ext H wr) (fun _ iv _=>nc - (intOf iv).toNat)
 case atStart=>exact⟨0,_,rfl,dD _,rfl,dM,za rfl,cW _⟩
 case round =>
  obtain⟨k,o,rfl,hk,rfl,T,F,a⟩:=hrel
  by_cases hlt:k<nc
  ·have E:(k:Int)<(nc:Int):=oM;obtain⟨R,y,rfl,_,_,l,z⟩:=(M.out wr (f.trans a)).str hlt;have Y:=q.out y (cX l.out);have CY:∀ W,Ext wr W->W.cell? (R.add k)=some (.string y):=fun W hW=>hW.aa z;have J:=fun W (hW:Ext wr W)=>I W (a.trans hW);have U:¬ 9223372036854775807<x.size+y.size:=oM;have G:¬ 9223372036854775807<o.size+1:=oM;have b:(x++y).size<=9223372036854775807:=by rw [ByteArray.size_append];omega
   have g:=za (fun W (hW:Ext wr W)=>O.out W ((f.trans a).trans hW) (x++y) b);have V:=cW wr;have i:=za (show mkS (zdw (zy s p L) (cols.take (k+1)) x)=o++mkB (zy s p L (x++y)) by
    rw [dH,l.out,zdw,eP,← zdw,F.out,eD,List.map_singleton,mkS_snoc])
   obtain⟨bv,r⟩:∃ bv,Hid (zy s p L (x++y)=bv):=⟨_,rfl⟩;rw [r.out] at g i;clear z b;go_wp2_with fail
   go_region_held3 (fun W=>Ext wr W) (first|assumption|(refine eR ?_;assumption)|(refine eE ?_ aM;assumption)|(refine eE ?_ aM;refine eR ?_;assumption)) (first
    |(go_at_call 255;refine (g.out _ ?_).mono ?_;(first|assumption|(refine eR ?_;assumption));rintro e Z ⟨rfl,X⟩))
   have j:Ext H Z:=a.trans aM;cases bv
   all_goals
    go_wp2_with fail
    go_roundw
    case rel=>exact⟨k+1,_,gM,oM,rfl,by rw [ByteArray.size_append];show o.size+1<=k+1;omega,i.symm,j⟩
    case measure=>simp [intOf];omega
  ·obtain rfl:k=nc:=oM;have u:=za (show mkS (zdw (zy s p L) cols x)=o by rw [F.out,dG (oH Q.out)]);go_wp2_with fail
   go_ret;exact⟨by rw [u.out];rfl,f.trans a⟩
end
def RetStrL (w:World) (l:List ByteArray) (e:Ending) (w':World):Prop:=
 ∃ A c,e=.returned (.slice A l.length c)∧w'.ownsRow w.heap.size 9 1 (.slice A l.length c) l.length (zM l)∧Ext w w'
def zbL (f:ByteArray->Bool) (cols words:List ByteArray):List ByteArray:=words.map fun x=>mkS (zdw f cols x)
theorem strs_snoc (l:List ByteArray) (x:ByteArray):zM (l++[x])=zM l++[.string x]:=by simp [zM]
section
variable {w W:World} {n c m d m' d' L:Nat} {A B B':Option Addr} {s:Sys} {p:Aut}
theorem zdI {nr cr lo2 hi2:Nat} (h:Tch w A n B m B' m' s p L)(hC:Reads w lo hi 1 C nc (zM cols))(hR:Reads w lo2 hi2 1 R nr (zM rows))(hc:nc<=1000)(hr:nr<=1000)(hcs:∀ y∈cols,y.size<=1000000)(hrs:∀ y∈rows,y.size<=1000000) :
  Calls Tryz.prog 229 #[.agg #[.bool false,(0:Int),(),(),s.al,s.st,.slice A n c,p.al,.slice B m d,.slice B' m' d',L],.slice C nc cc,.slice R nr cr] w (RetStrL w (zbL (zy s p L) cols rows)):=by
 have I:rows.length=nr:=by have:=hR.length;rw [zbC] at this;omega
 have U:=za (fun W (hW:Ext w W) (y:ByteArray) l=>zeK (c:=c) (d:=d) (d':=d') (cc:=cc) (x:=y) (h.ext hW) (hC.ext hW) hc l hcs);have T:=za (fun W (hW:Ext w W)=>hR.ext hW);have F:=za I;have r:=za hrs;clear h hC hR I hrs hcs
 go_enter Tryz.func229,Tryz.ntmps229
 go_upto_region 1 with fail
 generalize U0:w.alloc _=o at *;obtain⟨g,Y⟩:=fY U0;clear U0;have Q:=Y.cells;go_wp2_with fail
 go_loopw [7,8] (fun v iv wr=>∃ k:Nat,iv=.int .i64 k∧k<=nr∧wr.ownsRow o.heap.size 9 1 v k (zM (zbL (zy s p L) cols (rows.take k)))∧Ext o wr) (fun _ iv _=>nr - (intOf iv).toNat)
 case atStart=>exact⟨0,rfl,dD _,World.ownsRow_lit o #[] 0 (cY _) lM rfl,(cW _).alloc _⟩
 case round =>
  obtain⟨k,rfl,H,f,b⟩:=hrel
  by_cases hlt:k<nr
  ·have J:(k:Int)<(nr:Int):=oM;obtain⟨V,y,rfl,_,_,l,G⟩:=(T.out wr (g.trans b)).str hlt;have D:=r.out y (cX l.out);have CY:∀ W,Ext wr W->W.cell? (V.add k)=some (.string y):=fun W hW=>hW.aa G;have S:=fun W (hW:Ext wr W)=>Q W (b.trans hW);have q:=za (fun W (hW:Ext wr W)=>U.out W ((g.trans b).trans hW) y D);have j:=cW wr;have t:=za (show zM (zbL (zy s p L) cols (rows.take (k+1)))=zM (zbL (zy s p L) cols (rows.take k))++[.string (mkS (zdw (zy s p L) cols y))] by
    rw [dH,l.out,zbL,eP,← zbL,eD,List.map_singleton,strs_snoc])
   generalize mkS (zdw (zy s p L) cols y)=z at *;clear G;go_wp2_with fail
   refine uR (fun X=>Ext wr X) [9] (zw.of [0,1,2,3,4,5,6,7,8,9,10]) ?_;refine uQ ?_;refine zd fun K hK=>?_;go_simp;refine (q.out _ j.drew).mono (mQ fun M u=>?_);have a:Ext wr M:=j.drew.trans u;refine hK.out _ _ a ?_;refine pT ?_;refine uQ ?_;refine zd fun K hK=>?_;go_simp;refine hK.out _ _ (a.alloc _) ?_;refine pT ?_;refine zb fun K hK=>?_;refine zaL o M _ _ _ rfl 9 _ 1 16 Tryz.underlying61 zo rfl dM _ k (zM (zbL (zy s p L) cols (rows.take k))) _ _ rfl rfl (b.trans a).size (zg f a) rfl (zbZ _) lM oM ?_;intro g8 cap8 w8 hown8 hg8 hat8 hlt8;refine hK.out _ _ ?_;refine pT ?_;refine uQ ?_;refine ze ?_;go_wp2_with fail
   go_roundw
   case rel=>exact⟨k+1,gM,oM,by rw [t.out];exact hown8,(b.trans a).grown hg8 (fun k H=>(f.lt k H).1)⟩
   case measure=>simp [intOf];omega
  ·obtain rfl:k=nr:=oM;obtain⟨O,Z,rfl⟩:=zi f;have E:=za (show (rows.take k)=rows from dG (oH F.out));rw [E.out] at f;have i:=za (show (zbL (zy s p L) cols rows).length=k by rw [zbL,dO];exact F.out);go_wp2_with fail
   go_ret;exact⟨O,Z,by rw [i.out];rfl,by rw [i.out];exact zn f g.size,g.trans b⟩
theorem zfM (h:Tch w A n B m B' m' s p L)(hx:x.size<=9223372036854775807) :
  Calls Tryz.prog 259 #[.agg #[.bool false,(0:Int),(),(),s.al,s.st,.slice A n c,p.al,.slice B m d,.slice B' m' d',L],x] w fun e w'=>e=.returned (.bool (inB x L&&decide (x.size<=4000)))∧Ext w w':=by
 have g:=za (fun W (hW:Ext w W)=>zaO (c:=c) (d:=d) (d':=d') (h.ext hW));have o:=h.lt;have a:Ext w (w.alloc (.cells #[.bool false,(0:Int),(),(),s.al,s.st,.slice A n c,p.al,.slice B m d,.slice B' m' d',L] 203)):=(cW _).alloc _;have i:=Blk.new w 203 #[.bool false,(0:Int),(),(),s.al,s.st,.slice A n c,p.al,.slice B m d,.slice B' m' d',L];clear h;cases hin:inB x L
 all_goals
  have b:=za hin;clear hin
  go_enter Tryz.func259,Tryz.ntmps259
  go_upto_region 1 with fail
  generalize w.alloc _=k at *;have l:=i.cells;have j:=cW k;go_wp2_with (first
   |(go_at_call 228;refine (g.out _ a).mono (mQ fun q f=>?_))
   |(go_at_call 140;refine (zad hx oM).mono ?_;rw [b.out];rintro e r ⟨rfl,rfl⟩))
  go_ret;exact⟨zj (by first|rfl|(rw [Bool.true_and,decide_eq_decide];omega)),a.trans f⟩
end
def zeN (l:Nat):ByteArray:=strOfNums [((97+l:Nat):Int)]
theorem zdB (l:Nat):(zeN l).size=1:=strOfNums_size _
structure zdv (L:Nat) (f:ByteArray->Bool) (rows cols:List ByteArray):Prop where
 r1:1<=rows.length
 r12:rows.length<=12
 c1:1<=cols.length
 c20:cols.length<=20
 r0:rows[0]?=some ⟨#[]⟩
 c0:cols[0]?=some ⟨#[]⟩
 rw_:∀ (i:Nat) (x:ByteArray),1<=i->rows[i]?=some x->inB x L=true∧∃ y l,l<6∧x=y++zeN l∧y∈rows.take i
 cw:∀ (i:Nat) (x:ByteArray),1<=i->cols[i]?=some x->inB x L=true∧x.size<=4000∧x∉cols.take i
 nd:(rows.map (zdw f cols)).Nodup
section
variable {L:Nat} {f:ByteArray->Bool} {rows cols:List ByteArray}
theorem inB_empty (L:Nat):inB ⟨#[]⟩ L=true:=by unfold inB zdD;rfl
theorem zdv.rsz (h:zdv L f rows cols):∀ (i:Nat) (x:ByteArray),rows[i]?=some x->x.size<=i:=by
 intro i
 induction i using Nat.strongRecOn with
 |ind i ih =>
  intro x hx;rcases gJ i with rfl|c
  ·rw [h.r0] at hx;obtain rfl:=Option.some.inj hx;exact cY _
  ·obtain⟨-,y,l,g,rfl,d⟩:=h.rw_ i x c hx;obtain⟨j,b⟩:=dX d;have a:j<i:=by have:=(List.getElem?_eq_some_iff.1 b).1;rw [eO] at this;omega
   rw [iY a] at b;have:=ih j a y b;rw [ByteArray.size_append,zdB l];omega
theorem zdv.rin (h:zdv L f rows cols) (hx:x∈rows):inB x L=true∧x.size<=12:=by
 obtain⟨i,a⟩:=dX hx;have c:=(List.getElem?_eq_some_iff.1 a).1;refine⟨?_,by have:=h.rsz i x a;have:=h.r12;omega⟩;rcases gJ i with rfl|b
 ·rw [h.r0] at a;obtain rfl:=Option.some.inj a;exact inB_empty L
 ·exact (h.rw_ i x b a).1
theorem zdv.cin (h:zdv L f rows cols) (hx:x∈cols):inB x L=true∧x.size<=4000:=by
 obtain⟨i,a⟩:=dX hx;rcases gJ i with rfl|b
 ·rw [h.c0] at a;obtain rfl:=Option.some.inj a;exact⟨inB_empty L,dM⟩
 ·exact⟨(h.cw i x b a).1,(h.cw i x b a).2.1⟩
theorem rowsM_nodup (h:zdv L f rows cols):(zbL f cols rows).Nodup:=by
 have a:=h.nd;unfold zbL;have b:rows.map (fun x=>mkS (zdw f cols x))=(rows.map (zdw f cols)).map mkS:=by rw [List.map_map];rfl
 rw [b];exact List.pairwise_map.2 (a.imp fun hne e=>hne (mkS_inj e))
end
def TabAt (w:World) (R:Option Addr) (nr:Nat) (C:Option Addr) (nc:Nat) (rows cols:List ByteArray):Prop:=
 ∃ lo hi lo2 hi2,Reads w lo hi 1 R nr (zM rows)∧Reads w lo2 hi2 1 C nc (zM cols)
theorem TabAt.ext {W:World}  {nr:Nat} (h:TabAt w R nr C nc rows cols)(hx:Ext w W):TabAt W R nr C nc rows cols:=by
 obtain⟨g,f,b,a,c,d⟩:=h;exact⟨g,f,b,a,c.ext hx,d.ext hx⟩
theorem TabAt.nr {nr:Nat} (h:TabAt w R nr C nc rows cols):rows.length=nr∧cols.length=nc:=by
 obtain⟨j,i,g,f,c,d⟩:=h;have a:=c.length;have b:=d.length;rw [zbC] at a b;omega
theorem Reads.takeS {l:List ByteArray}(h:Reads w lo hi 1 A n (zM l))(hk:k<=n):Reads w lo hi 1 A k (zM (l.take k)):=by
 have g:=h.length;rw [zbC] at g;refine⟨by rw [zbC,eO];omega,oH h.len,fun h0=>?_⟩;obtain⟨a,e,b,c,d⟩:=h.2.2 oM;refine⟨a,e,b,c,fun j u hu=>d j u ?_⟩;unfold zM at hu ⊢;rw [List.map_take] at hu;have f:j<k:=by have:=(List.getElem?_eq_some_iff.1 hu).1;rw [eO] at this;omega
 rwa [iY f] at hu
theorem str_front (y:ByteArray) (l:Nat):(y++zeN l).extract 0 y.size=y:=by
 rw [ByteArray.extract_append_eq_left rfl]
section
variable {w W:World} {L nr nc cr cc:Nat} {R C:Option Addr} {rows cols:List ByteArray} {f:ByteArray->Bool}
theorem ziK (hT:TabAt w R nr C nc rows cols)(hI:zdv L f rows cols)(hL:L<64)(hcr:nr<=cr)(hcc:nc<=cc) :
  Calls Tryz.prog 264 #[L,.agg #[.slice R nr cr,.slice C nc cc]] w fun e w'=>e=.returned (.bool true)∧Ext w w':=by
 obtain⟨Y,Z⟩:=hT.nr;have z:=hI.r1;have B:=hI.r12;have r:=hI.c1;have s:=hI.c20;rw [Y] at z B;rw [Z] at r s;obtain⟨lo,hi,ar,aj,M,O⟩:=hT;obtain⟨H,x,rfl,_,_,j,d⟩:=M.str (show 0<nr by omega);obtain⟨J,y,rfl,_,_,D,p⟩:=O.str (show 0<nc by omega);obtain rfl:=Option.some.inj (j.out.symm.trans hI.r0);obtain rfl:=Option.some.inj (D.out.symm.trans hI.c0);rw [addr_zero] at d p;have U:=za (fun W (hW:Ext w W)=>M.ext hW);have V:=za (fun W (hW:Ext w W)=>O.ext hW);have G:=za hI;have CX:=fun W (hW:Ext w W)=>hW.aa d;have CY:=fun W (hW:Ext w W)=>hW.aa p;clear M O hI j D d p Y Z
 go_enter Tryz.func264,Tryz.ntmps264
 go_upto_region 1 with fail
 generalize U0:w.alloc _=T at *;obtain⟨c,I⟩:=fY U0;clear U0;have k1:=I.cell;have d:=CX _ c;have p:=CY _ c;have b:=cW T;go_wp2_with fail
 go_loopw [7] (fun iv wr=>∃ k:Nat,1<=k∧k<=nr∧iv=.int .i64 k∧Ext T wr) (fun iv _=>nr - (intOf iv).toNat)
 case atStart=>exact⟨1,cY _,z,rfl,b⟩
 case round =>
  clear b k1 d p;obtain⟨k,i,E,rfl,a⟩:=hrel
  by_cases hlt:k<nr
  ·have u:(k:Int)<(nr:Int):=oM;have Q:(k:Int)<=(cr:Int):=oM;obtain⟨ah,x,e,_,_,j,d⟩:=(U.out wr (c.trans a)).str hlt;obtain rfl:=Option.some.inj e;obtain⟨g,y,l,hl,o,D⟩:=G.out.rw_ k x i j.out;have S:x.size=y.size+1:=by rw [o,ByteArray.size_append,zdB]
   have an:x.extract 0 y.size=y:=by rw [o,str_front]
   have h0:0<x.size:=oM;have ao:y.size<=12:=by have:=G.out.rsz k x j.out;omega
   have h:=za (zdP.2 D);have m:=za (fun W (hW:Ext w W)=>(U.out W hW).takeS E);have n:=za g;have F:∀ W,Ext wr W->W.cell? (H.add k)=some (.string x):=fun W hW=>hW.aa d;have CB:∀ W,Ext wr W->∀ q,W.cell? ⟨w.heap.size,q,none⟩=#[Value.slice (some H) nr cr,.slice (some J) nc cc][q]?:=fun W hW=>(I.ext (a.trans hW)).cell;have b:=cW wr;have am:IntKind.i64.wrap (y.size:Int)=(y.size:Int):=IntWalk.i64_in _ oM;have al:((y.size:Int)+1==0)=false:=by simp;omega
   have ap:(y.size:Int)<=(y.size:Int)+1:=oM;clear g D o d j hl e;go_wp2_with fail
   refine uR (fun X=>Ext wr X) [] (zw.of [0,1,2,3,4,5,6,7,8,9,10,11,12,13,14,15,16,17,18,19,20,21]) ?_;refine uQ ?_;refine zd fun K hK=>?_;go_simp;refine (zad oM oM).mono ?_;rw [n.out];rintro e w3 ⟨rfl,rfl⟩;refine hK.out _ _ b.drew ?_;refine pT ?_;refine uQ ?_;refine zd fun K hK=>?_;go_simp;refine (zcT (m.out _ (c.trans (a.trans b.drew)))).mono ?_;rw [h.out];rintro e w4 ⟨rfl,rfl⟩;refine hK.out _ _ b.drew ?_;refine pT ?_;refine uQ ?_;refine ze ?_;go_wp2_with fail
   go_roundw
   case rel=>exact⟨k+1,oM,oM,gM,a.trans b.drew⟩
   case measure=>simp [intOf];omega
  ·have t:(nr:Int)<=(k:Int):=oM;go_wp2_with fail
   go_loopw [9] (fun iv wr=>∃ k:Nat,1<=k∧k<=nc∧iv=.int .i64 k∧Ext T wr) (fun iv _=>nc - (intOf iv).toNat)
   case atStart=>exact⟨1,cY _,r,rfl,a⟩
   case round =>
    clear a t hlt E i;obtain⟨k,i,E,rfl,a⟩:=hrel
    by_cases hlt:k<nc
    ·have u:(k:Int)<(nc:Int):=oM;have Q:(k:Int)<=(cc:Int):=oM;obtain⟨ai,x,e,_,_,j,d⟩:=(V.out wr (c.trans a)).str hlt;obtain rfl:=Option.some.inj e;obtain⟨g,S,v⟩:=G.out.cw k x i j.out;have aa:¬ (4000<(x.size:Int)):=oM;have h:=za (zcq.2 v);have m:=za (fun W (hW:Ext w W)=>(V.out W hW).takeS E);have n:=za g;have F:∀ W,Ext wr W->W.cell? (J.add k)=some (.string x):=fun W hW=>hW.aa d;have CB:∀ W,Ext wr W->∀ q,W.cell? ⟨w.heap.size,q,none⟩=#[Value.slice (some H) nr cr,.slice (some J) nc cc][q]?:=fun W hW=>(I.ext (a.trans hW)).cell;have b:=cW wr;clear g v d j e;go_wp2_with (first
      |(go_at_call 140;refine (zad oM oM).mono ?_;rw [n.out];rintro e w3 ⟨rfl,rfl⟩)
      |(go_at_call 261;refine (zcT (m.out _ (c.trans a))).mono ?_;rw [h.out];rintro e w3 ⟨rfl,rfl⟩))
     go_roundw
     case rel=>exact⟨k+1,oM,oM,gM,a⟩
     case measure=>simp [intOf];omega
    ·have t:(nc:Int)<=(k:Int):=oM;go_wp2_with fail
     go_ret;exact⟨rfl,c.trans a⟩
end
theorem zdv.rsz' (h:zdv L f rows cols):(∀ y∈rows,y.size<=1000000)∧∀ y∈cols,y.size<=1000000:=
 ⟨fun y hy=>by have:=(h.rin hy).2;omega,fun y hy=>by have:=(h.cin hy).2;omega⟩
section
variable {w W:World} {n c m d m' d' L:Nat} {A B B':Option Addr} {s:Sys} {p:Aut} {nr nc cr cc:Nat} {R C:Option Addr} {rows cols:List ByteArray}
theorem zbM (h:Tch w A n B m B' m' s p L)(hT:TabAt w R nr C nc rows cols)(hI:zdv L (zy s p L) rows cols)(hcr:nr<=cr)(hcc:nc<=cc) :
  Calls Tryz.prog 251 #[.agg #[.bool false,(0:Int),(),(),s.al,s.st,.slice A n c,p.al,.slice B m d,.slice B' m' d',L],.agg #[.slice R nr cr,.slice C nc cc]] w fun e w'=>e=.returned (.bool true)∧Ext w w':=by
 obtain⟨M,Y⟩:=hT.nr;have z:=hI.r12;have v:=hI.c20;rw [M] at z;rw [Y] at v;have HA:=za (fun W (hW:Ext w W)=>zaO (c:=c) (d:=d) (d':=d') (h.ext hW));have HS:=za (fun W (hW:Ext w W)=>ziK (cr:=cr) (cc:=cc) (hT.ext hW) hI h.lt hcr hcc);obtain⟨lo,hi,aw,aq,Z,h2⟩:=hT;have HR:=za (fun W (hW:Ext w W)=>zdI (c:=c) (d:=d) (d':=d') (cc:=cc) (cr:=cr) (h.ext hW) (h2.ext hW) (Z.ext hW) oM oM hI.rsz'.2 hI.rsz'.1);have S:=za (rowsM_nodup hI);have l:(zbL (zy s p L) cols rows).length=nr:=by rw [zbL,dO];exact M
 generalize zbL (zy s p L) cols rows=zs at *;clear h Z h2 hI M Y
 go_enter Tryz.func251,Tryz.ntmps251
 go_upto_region 1 with fail
 generalize U0:(w.alloc _).alloc _=T at *;obtain⟨o,b1,b2⟩:=Ext.x2_ U0;clear U0;have CB:=b1.cells;have CT:=b2.cells;have f:=cW T;refine uR (fun X=>Ext T X) [] (zw.of [0,2,1,3,4]) ?_;refine uQ ?_;refine zd fun K hK=>?_;go_simp;refine (HA.out _ (o.trans f.drew)).mono (mQ fun w2 F=>?_);have a:Ext T w2:=f.drew.trans F;refine hK.out _ _ a ?_;refine pT ?_;refine uQ ?_;refine zd fun K hK=>?_;go_simp;refine (HS.out _ (o.trans a)).mono (mQ fun w3 H=>?_);have b:=a.trans H;refine hK.out _ _ b ?_;refine pT ?_;refine uQ ?_;refine ze ?_;clear a F H;go_wp2_with (first|(go_at_call 229;refine (HR.out _ (o.trans b)).mono ?_;rintro e U ⟨G,g,rfl,r,I⟩))
 rw [l] at r;have t:=za l;clear l;have E:=b.trans I;have D:=Reads.af r;have u:=za (fun W (hW:Ext U W)=>D.ext hW);have av:nr<=g:=by
  rcases r.2 with ⟨e,h0⟩|⟨g0,an,ao,e,_,_,ab,_⟩
  ·omega
  ·injection e with _ _ h3;omega
 clear b I r D
 go_loopw [6] (fun iv wr=>∃ k:Nat,k<=nr∧iv=.int .i64 k∧Ext U wr) (fun iv _=>nr - (intOf iv).toNat)
 case atStart=>exact⟨0,dD _,rfl,cW _⟩
 case round =>
  obtain⟨k,hk,rfl,q⟩:=hrel
  by_cases hlt:k<nr
  ·have ae:(k:Int)<(nr:Int):=oM;have au:(k:Int)<=(g:Int):=oM;obtain⟨ad,x,rfl,_,_,hx,V⟩:=(u.out wr q).str hlt;have y:=za (show zgP (zs.take k) x=false by
    rw [zcq];intro hm;obtain⟨j,O⟩:=dX hm;have Q:j<k:=by have:=(List.getElem?_eq_some_iff.1 O).1;rw [eO] at this;omega
    rw [iY Q] at O;have:=(List.getElem?_inj (i:=j) (j:=k) (oH t.out) S.out).1 (O.trans hx.out.symm);omega)
   have J:=za (fun W (hW:Ext U W)=>(u.out W hW).takeS hk);have CX:∀ W,Ext wr W->W.cell? (ad.add k)=some (.string x):=fun W hW=>hW.aa V;have f:=cW wr;clear V hx;go_wp2_with fail
   refine uR (fun X=>Ext wr X) [] (zw.of [0,1,2,3,4,5,6,7]) ?_;refine uQ ?_;refine zd fun K hK=>?_;go_simp;refine (zcT (J.out _ (q.trans f.drew))).mono ?_;rw [y.out];rintro e w5 ⟨rfl,rfl⟩;refine hK.out _ _ f.drew ?_;refine pT ?_;refine uQ ?_;refine ze ?_;go_wp2_with fail
   go_roundw
   case rel=>exact⟨k+1,oM,gM,q.trans f.drew⟩
   case measure=>simp [intOf];omega
  ·have ap:(nr:Int)<=(k:Int):=oM;go_wp2_with fail
   go_ret;exact⟨rfl,o.trans (E.trans q)⟩
def candL (L:Nat) (rows:List ByteArray):List ByteArray:=rows.flatMap fun r=>(letters L 6).map fun l=>r++zeN l
noncomputable def zbK (L:Nat) (f:ByteArray->Bool) (rows cols:List ByteArray):Option ByteArray:=(candL L rows).find? fun x=>!zgP (zbL f cols rows) (mkS (zdw f cols x))
theorem find_pre {α:Type} {P:α->Bool} {pre post l:List α} {x:α}(hl:l=pre++x :: post)(hp:∀ y∈pre,P y=false)(hx:P x=true):l.find? P=some x:=by
 rw [hl,List.find?_append,List.find?_eq_none.2 (fun y hy=>by rw [hp y hy];decide),Option.none_or,List.find?_cons_of_pos hx]
theorem open_find {zs:List ByteArray} {ls:List Nat}  {i:Nat} (hx:rows[i]?=some x)(hl:ls[k]?=some l)(hy:x++zeN l=y)
  (hd:∀ y∈(rows.take i).flatMap (fun r=>ls.map fun l=>r++zeN l),zgP zs (mkS (zdw f cols y))=true) (hdk:∀ y∈(ls.take k).map (fun l=>x++zeN l),zgP zs (mkS (zdw f cols y))=true) (hm:zgP zs (mkS (zdw f cols y))=false) :
  (rows.flatMap fun r=>ls.map fun l=>r++zeN l).find? (fun x=>!zgP zs (mkS (zdw f cols x)))=some y:=by
 have g:rows=rows.take i++x :: rows.drop (i+1):=by
  obtain⟨b,c⟩:=List.getElem?_eq_some_iff.1 hx;rw [← c,← fL b,gX]
 have d:ls=ls.take k++l :: ls.drop (k+1):=by
  obtain⟨b,c⟩:=List.getElem?_eq_some_iff.1 hl;rw [← c,← fL b,gX]
 have e:ls.map (fun l=>x++zeN l)=(ls.take k).map (fun l=>x++zeN l)++y :: (ls.drop (k+1)).map (fun l=>x++zeN l):=by
  conv=>lhs;rw [d]
  rw [eP,eQ,hy]
 refine find_pre (pre:=(rows.take i).flatMap (fun r=>ls.map fun l=>r++zeN l)++(ls.take k).map (fun l=>x++zeN l)) (post:=(ls.drop (k+1)).map (fun l=>x++zeN l)++(rows.drop (i+1)).flatMap (fun r=>ls.map fun l=>r++zeN l)) ?_ ?_ ?_
 ·conv=>lhs;rw [g]
  rw [List.flatMap_append,List.flatMap_cons,e];simp only [gO,List.cons_append]
 ·intro y' hy';show (!zgP zs (mkS (zdw f cols y')))=false;rcases List.mem_append.1 hy' with a|a
  ·rw [hd y' a,Bool.not_true]
  ·rw [hdk y' a,Bool.not_true]
 ·show (!zgP zs (mkS (zdw f cols y)))=true;rw [hm,Bool.not_false]
theorem zdJ (h1:l<6):Calls Tryz.prog 111 #[l] w fun e w'=>e=.returned (.string (zeN l))∧Ext w w':=zel h1
theorem zfL (h:Tch w A n B m B' m' s p L)(hT:TabAt w R nr C nc rows cols)(hI:zdv L (zy s p L) rows cols) :
  Calls Tryz.prog 252 #[.agg #[.bool false,(0:Int),(),(),s.al,s.st,.slice A n c,p.al,.slice B m d,.slice B' m' d',L],.agg #[.slice R nr cr,.slice C nc cc]] w fun e w'=>e=.returned (.tuple #[.string ((zbK L (zy s p L) rows cols).getD ⟨#[]⟩),.bool (zbK L (zy s p L) rows cols).isSome])∧Ext w w':=by
 obtain⟨e1,e2⟩:=hT.nr;have ah:=hI.r12;have af:=hI.c20;rw [e1] at ah;rw [e2] at af;have HA:=za (fun W (hW:Ext w W)=>zaO (c:=c) (d:=d) (d':=d') (h.ext hW));obtain⟨lo,hi,bd,a7,v,h2⟩:=hT;have HR:=za (fun W (hW:Ext w W)=>zdI (c:=c) (d:=d) (d':=d') (cc:=cc) (cr:=cr) (h.ext hW) (h2.ext hW) (v.ext hW) oM oM hI.rsz'.2 hI.rsz'.1);have HW:=za (fun W (hW:Ext w W) (y:ByteArray) D=>zeK (c:=c) (d:=d) (d':=d') (cc:=cc) (x:=y) (h.ext hW) (h2.ext hW) oM D hI.rsz'.2);have H1:=za (fun W (hW:Ext w W)=>v.ext hW);have hL:=h.lt;have ar:=za (fun x V=>hI.rin (x:=x) V);have M:(zbL (zy s p L) cols rows).length=nr:=by rw [zbL,dO];exact e1
 have ag:zbK L (zy s p L) rows cols=(candL L rows).find? fun x=>!zgP (zbL (zy s p L) cols rows) (mkS (zdw (zy s p L) cols x)):=rfl;generalize zbK L (zy s p L) rows cols=op at *;generalize zbL (zy s p L) cols rows=zs at *;have ae:=za ag;have aI:=za M;have He:=za e1;clear h v h2 hI e1 e2 ag M
 go_enter Tryz.func252,Tryz.ntmps252
 go_upto_region 1 with fail
 generalize U0:(w.alloc _).alloc _=w1 at *;obtain⟨u,b1,b2⟩:=Ext.x2_ U0;clear U0;have CB:=b1.cells;have CT:=b2.cells;have j:=cW w1;go_wp2_with (first
  |(go_at_call 228;refine (HA.out _ u).mono (mQ fun w2 ai=>?_))
  |(go_at_call 61;refine (zU L tM _).mono ?_;rintro e w3 ⟨HL,hc,rfl,H,aj⟩;have I:=ai.trans aj)
  |(go_at_call 229;refine (HR.out _ (u.trans I)).mono ?_;rintro e w4 ⟨G,g,rfl,F,X⟩;have b:=I.trans X))
 have O:=Reads.af F;have HG:=za (fun W (hW:Ext w4 W)=>O.ext hW);have t:=zg H X;have aa:=za (fun W (hW:Ext w4 W)=>zg t hW);have az:=za (fun l (Z:l∈letters L 6)=>(zW.1 Z).1);have E:=za (show candL L rows=rows.flatMap fun r=>(letters L 6).map fun l=>r++zeN l from rfl);have a8:(letters L 6).length<=6:=zB L 6;generalize letters L 6=S at *;clear H t O F ai aj I X j;have j:=cW w4
 go_loopw [8] (fun iv wr=>∃ i:Nat,i<=nr∧iv=.int .i64 i∧Hid (∀ x∈(rows.take i).flatMap (fun r=>S.map fun l=>r++zeN l),zgP zs (mkS (zdw (zy s p L) cols x))=true)∧Ext w4 wr) (fun iv _=>nr - (intOf iv).toNat)
 case atStart=>exact⟨0,dD _,rfl,za (fun x V=>by simp at V),j⟩
 case round =>
  clear j;obtain⟨i,hi,rfl,o,f⟩:=hrel;have ap:=fun W (hW:Ext wr W)=>CT W (b.trans (f.trans hW));have j:=cW wr
  by_cases hlt:i<nr
  ·have aN:(i:Int)<(nr:Int):=oM;obtain⟨ad,x,rfl,_,_,V,cx⟩:=(H1.out wr (u.trans (b.trans f))).str hlt;have CX:∀ W,Ext wr W->W.cell? (ad.add i)=some (.string x):=fun W hW=>hW.aa cx;have bb:=(ar.out x (cX V.out)).2;have ak:=za V.out;clear cx V;go_wp2_with fail
   obtain⟨wo,aB⟩:∃ wo,wo=wr:=⟨_,rfl⟩;subst aB
   go_loopw [9] (fun kv wr=>∃ k:Nat,k<=S.length∧kv=.int .i64 k∧Hid (∀ y∈(S.take k).map (fun l=>x++zeN l),zgP zs (mkS (zdw (zy s p L) cols y))=true)∧Ext wo wr) (fun kv _=>S.length - (intOf kv).toNat)
   case atStart=>exact⟨0,dD _,rfl,za (fun y D=>by simp at D),j⟩
   case round =>
    clear j;obtain⟨k,hk,rfl,T,a⟩:=hrel
    by_cases hkl:k<S.length
    ·have aL:(k:Int)<(S.length:Int):=oM;obtain⟨l,Z⟩:∃ l,S[k]?=some l:=⟨_,List.getElem?_eq_getElem hkl⟩;have ay:=az.out l (cX Z);have Y:=aa.out wr (f.trans a);obtain⟨gl,rfl,a5,-⟩:=zac Y oM;have cl:=zdg Y hkl;rw [dI,Z,Option.getD_some] at cl;have CL:∀ W,Ext wr W->W.cell? ⟨gl,k,none⟩=some (.int .i64 (l:Nat)):=fun W hW=>hW.aa cl;have aU:=fun W (hW:Ext wr W)=>CX W (a.trans hW);have aS:=fun W (hW:Ext wr W)=>ap W (a.trans hW);have aQ:∀ W,Ext wr W->∀ q,W.cell? ⟨w.heap.size,q,none⟩=#[Value.bool false,.int .i64 0,.slice none 0 0,.slice none 0 0,.int .i64 s.al,.int .i64 s.st,.slice A n c,.int .i64 p.al,.slice B m d,.slice B' m' d',.int .i64 L][q]?:=fun W hW=>CB W ((b.trans (f.trans a)).trans hW);have HT:=za (fun W=>zdJ (w:=W) ay);have Hl:=za Z;obtain⟨z,hz⟩:∃ z,Hid (zeN l=z):=⟨_,rfl⟩;rw [hz.out] at HT;have bc:z.size=1:=by rw [← hz.out];exact zdB l
     have a9:¬ 9223372036854775807<x.size+1:=oM;have ab:=za (fun W (hW:Ext wr W)=>HW.out W ((u.trans (b.trans (f.trans a))).trans hW) (x++z) (by rw [ByteArray.size_append];omega));have aq:=za (fun W (hW:Ext wr W)=>HG.out W ((f.trans a).trans hW));have j:=cW wr;obtain⟨y,D⟩:∃ y,x++z=y:=⟨_,rfl⟩;rw [D] at ab;have am:Hid (x++zeN l=y):=by unfold Hid;rw [hz.out];exact D
     clear Z cl Y;go_wp2_with fail
     go_region_held3 (fun W=>Ext wr W) (first|assumption|(refine eR ?_;assumption)|(refine eE ?_ aM;assumption)|(refine eE ?_ aM;refine eR ?_;assumption)) (first
      |(go_at_call 111;refine (HT.out _).mono (mQ fun w7 ba=>?_)))
     have Q:Ext wr w7:=aM;clear D;cases hm:zgP zs (mkS (zdw (zy s p L) cols y))
     all_goals
      have Hm:=za hm;clear hm;go_wp2_with (first
       |(go_at_call 231;refine (ab.out _ Q).mono (mQ fun w8 aC=>?_);have J:=Q.trans aC)
       |(go_at_call 261;with_reducible refine (zcT (aq.out _ J)).mono ?_;rw [Hm.out];rintro e w9 ⟨rfl,rfl⟩))
     ·have U:=za (show op=some y by
       rw [ae.out,E.out];exact open_find ak.out Hl.out am.out o.out T.out Hm.out)
      go_ret2;exact⟨by rw [U.out];rfl,u.trans (b.trans (f.trans (a.trans J)))⟩
     ·go_roundw
      case rel=>exact⟨k+1,oM,gM,za (fun y' hy'=>by
       rw [dH,Hl.out,eP] at hy';rcases List.mem_append.1 hy' with v|v
       ·exact T.out y' v
       ·simp at v;rw [v,am.out];exact Hm.out),a.trans J⟩
      case measure=>simp [intOf];omega
    ·have ax:(S.length:Int)<=(k:Int):=oM;go_wp2_with fail
     go_roundw
     case rel=>exact⟨i+1,oM,gM,za (fun y D=>by
      rw [dH,ak.out,List.flatMap_append] at D;rcases List.mem_append.1 D with v|v
      ·exact o.out y v
      ·refine T.out y ?_;rw [dG oM];simpa using v),f.trans a⟩
     case measure=>simp [intOf];omega
  ·have ax:(nr:Int)<=(i:Int):=oM;have aA:=za (show op=none by
    rw [ae.out,E.out,List.find?_eq_none];intro y D;have:=o.out y (by rw [dG (oH He.out)];exact D);rw [this];decide)
   go_wp2_with fail
   go_ret2;exact⟨by rw [aA.out];rfl,u.trans (b.trans f)⟩
end
end Go.Proofs.YtfcjhpodichpjaaGreatDoor
