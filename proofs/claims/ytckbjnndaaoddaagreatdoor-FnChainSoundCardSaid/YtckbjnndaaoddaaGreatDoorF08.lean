/- Blocks are t -/
import Derived.Test.YtckbjnndaaoddaaGreatDoorF07
import Derived.Laws.Strings
set_option maxHeartbeats 4000000
set_option maxRecDepth 100000
namespace Go.Proofs.YtckbjnndaaoddaaGreatDoor
open Go Go.RowKit
open Blk renaming new->dU
open Bool renaming and_eq_true->dF,eq_false_iff->eT,not_eq_false->jA,not_eq_true'->fY,or_eq_true->gA
open Ext renaming drew->eZ,refl->cY,trans->eE,x1_->gK
open Frm renaming refl->iL,setCell->dE
open Int renaming toNat_natCast->eJ
open List renaming append_assoc->iK,append_nil->gW,eq_nil_of_length_eq_zero->dT,foldl_cons->iD,getElem?_of_mem->dX,getElem?_take_of_lt->iU,length_map->dW,length_take->eK,map_append->eU,mem_cons_of_mem->fM,mem_cons_self->gD,mem_of_getElem?->dB,mem_replicate->iW,replicate->dS,take_add_one->dJ,take_of_length_le->dI
open Nat renaming eq_zero_or_pos->iX,le_add_right->iR,le_of_lt_succ->gH,le_refl->dD,le_trans->dK,lt_or_eq_of_le->eV,or_lt_two_pow->eB,pow_le_pow_right->dZ,testBit_or->gU,zero_le->dG
open Option renaming toList_some->eG
open Reads renaming af->dY
variable {A A' C:Option Addr} {G L M N R Z b b0 base c c' c0 cc g0 hi k lo n n' nc size:Nat} {O T v:List Nat} {S:Nat->Prop} {W w w' w0 wB:World} {a f g p:Aut} {al st:Int} {cols l rows:List ByteArray} {cs:Array Value} {e:TypeId} {es:List Edg} {s t u y z:Sys} {ss:List Sys} {x:ByteArray} {xs:List Value}
theorem zhi {v:Value} (h:w.ownsRow base e size v n xs)(hb:v.ownBlock=some b):∃ cur,w.heap[b]?=some (.cells cur e (0,0)):=by
 rcases h.2 with ⟨rfl,_⟩|⟨g,a,cur,rfl,_,c,_⟩
 ·simp [Value.ownBlock] at hb
 ·have:g=b:=by simpa [Value.ownBlock] using hb
  subst this;exact⟨cur,c⟩
theorem zK.frmT (h:zK w base A n c A' n' c' a)(hb:Frm S w w')
  (hS:∀ k,S k->∀ cs t,w.heap[k]?=some (.cells cs t (0,0))->t≠3∧t≠110∧t≠4):zK w' base A n c A' n' c' a:=by
 obtain⟨⟨f,h1,h2⟩,j,g,l⟩:=h;refine⟨⟨f,zf h1 hb (fun b hv hs=>?_),h2.frm hb (fun i r b hr hb hs=>?_)⟩,j,zf g hb (fun b hv hs=>?_),l⟩
 ·obtain⟨cs,d⟩:=zhi h1 hv;exact (hS b hs cs _ d).2.1 rfl
 ·obtain⟨o,_,m⟩:=h2.row hr;obtain⟨cs,d⟩:=zhi m hb;exact (hS b hs cs _ d).1 rfl
 ·obtain⟨cs,d⟩:=zhi g hv;exact (hS b hs cs _ d).2.2 rfl
theorem zK.aq {t:TypeId}(h:zK w base A n c A' n' c' a)(hB:Blk w G t cs)(hf:Frm (fun k=>k=G) w w')(ht:t≠3∧t≠110∧t≠4):zK w' base A n c A' n' c' a:=
 h.frmT hf (fun k hk cs' t' hh=>by
  subst hk
  unfold Blk at hB
  rw [hB] at hh
  injection hh with hh
  injection hh with _ h2
  subst h2
  exact ht)
theorem zK.farR {b1:Nat}  {v:Value}      (h:zK w base A n c A' n' c' a)(ho:w.ownsRow b1 e size v k xs)(hf:Frm (fun k=>v.ownBlock=some k) w w')(ht:e≠3∧e≠110∧e≠4):zK w' base A n c A' n' c' a:=
 h.frmT hf (fun k hk cs' t' hh=>by
  obtain⟨cs,hc⟩:=zhi ho hk
  rw [hc] at hh
  injection hh with hh
  injection hh with _ h2
  subst h2
  exact ht)
theorem spec_l2Rank {p:Nat} (hp:p<=16)(hk:k<=p) :
  Calls Tryz.prog 297 #[.int .i64 (2 ^ p - 1:Nat),k] w fun e w'=>e=.returned (.int .i64 (k:Nat))∧w=w':=by
 have f:2 ^ p - 1<65536:=by have:=dZ (show 1<=2 by omega) hp;have:(2:Nat) ^ 16=65536:=rfl;omega
 have c:=za (fun i (a:i<p)=>show (2 ^ p - 1).testBit i=true by rw [Nat.testBit_two_pow_sub_one];simpa using a);generalize 2 ^ p - 1=F at *
 go_enter Tryz.func297,Tryz.ntmps297
 go_wp2_with fail
 go_loop [5,6] (fun v iv=>∃ i:Nat,iv=.int .i64 i∧i<=k∧v=.int .i64 i) (fun _ iv=>k - (intOf iv).toNat)
 case atStart=>exact⟨0,rfl,dG _,rfl⟩
 case round =>
  obtain⟨i,rfl,a,rfl⟩:=hrel
  by_cases hlt:i<k
  ·have b:(i:Int)<(k:Int):=oM;have d:=za (c.out i oM);go_wp2_with (go_at_call 143;refine (zae F i tM _ oM).mono ?_;rw [d.out];rintro e w' ⟨rfl,rfl⟩)
   go_round
   case rel=>exact⟨i+1,gM,oM,gM⟩
   case measure=>simp [intOf];omega
  ·obtain rfl:i=k:=oM;go_wp2_with fail
   go_ret;exact⟨rfl,rfl⟩
section
variable {w W:World} {lo hi n c m d m' d':Nat} {A B B':Option Addr} {s:Sys} {p:Aut}
theorem yF08a3 {P:Prop}(h:P:=by
 refine zb fun K hK=>?_;go_simp;refine hK.out _ _ ?_;refine ze ?_;go_wp2_with fail
 go_meet;obtain⟨w1,h1,h2⟩:=Hfin.out;exact⟨w1,rfl,h1,h2⟩
 ):P:=h
theorem spec_l2Keep {P:Nat}(h:zR w lo hi A n s)(hv:zj s=true)(hP:s.st=(P:Int))(hn:n<=1000000)(hhi:hi<=w.heap.size) :
  Calls Tryz.prog 269 #[.agg #[s.al,s.st,.slice A n c],.int .i64 (2 ^ P - 1:Nat)] w (RetSys w s):=by
 have ap:=zcu hv;obtain⟨an,ao,I,-⟩:=ap;have D:P<=16:=oM;have M:s.st.toNat=P:=oM;rw [M] at I;have Hf:=za I;have HS:=za (fun W (hW:Ext w W)=>h.ext hW);have Z:=za h.1;have ad:=za hP;have hF:2 ^ P - 1<65536:=by have:=dZ (show 1<=2 by omega) D;have:(2:Nat) ^ 16=65536:=rfl;omega
 have G:=za (fun k W (Y:k<=P)=>spec_l2Rank (w:=W) D Y);have HB:=za (fun i (hi:i<P)=>show (2 ^ P - 1).testBit i=true by rw [Nat.testBit_two_pow_sub_one];simpa using hi);rw [hP];generalize 2 ^ P - 1=F at *;clear h hv hP an ao I M
 go_enter Tryz.func269,Tryz.ntmps269
 go_upto_region 1 with fail
 generalize U0:(w.alloc _).alloc _=l at *;obtain⟨t,b1,b2⟩:=Ext.x2_ U0;clear U0;have CB:=b1.cells;have B:=cY l;have aT:=b2.lt;have O:=za (fun W=>G.out P W (dD _));have j:=B.drew;have ar:=(cY l.drew).alloc (.cells #[(0:Int),(0:Int),()] 38);have bG:=dU l.drew 38 #[(0:Int),(0:Int),()]
 go_cut [5] (fun v wx=>∃ w1,v=.pointer (some l.heap.size)∧Ext l w1∧Gr2 w1 wx l.heap.size s.al (P:Nat) (.slice none 0 0) [])
 case first =>
  have U:∃ w1,Ext l w1∧Gr2 w1 (l.alloc (.cells #[s.al,.int .i64 (P:Nat),()] 38)).drew l.heap.size s.al (P:Nat) (.slice none 0 0) []:=
   ⟨(l.alloc (.cells #[s.al,.int .i64 (P:Nat),()] 38)).drew,((cY _).alloc _).drew,dU l _ _,World.ownsRow_nil _ _ _ _,iL _ _,sM⟩
  have Hfin:=za U;have cG:=bG.cell;have fG:=bG.frozen;rw [show l.drew.heap.size=l.heap.size from rfl] at cG fG;clear U;refine uR (fun X=>Ext l X) [8] (zv.app [0,1,2,3,4] (zv.two 5 (zv.of [6,7,8]) 7 (zv.of [5,6,8]))) ?_;refine uQ ?_;refine zm (fun K hK=>?_) (fun K hK=>?_)
  ·go_simp;refine (O.out _).mono ?_;rintro e T ⟨rfl,rfl⟩;refine hK.out _ _ j ?_;refine pT ?_;refine uQ ?_;refine zd fun K hK=>?_;go_simp;refine hK.out _ _ (j.alloc _) ?_;refine pT ?_;exact yF08a3
  ·go_simp;refine hK.out _ _ (j.alloc _) ?_;refine pT ?_;refine zd fun K hK=>?_;go_simp;refine (O.out _).mono ?_;rintro e T ⟨rfl,rfl⟩;refine hK.out _ _ (j.alloc _) ?_;refine pT ?_;refine uQ ?_;exact yF08a3
 case rest =>
  obtain⟨w1,rfl,f,a⟩:=hcut;have ae:=za (fun W (hW:Ext w1 W)=>HS.out W (t.trans (f.trans hW)));have ab:∀ W,Frm (fun k=>k=l.heap.size) w1 W->∀ q,W.cell? ⟨w.heap.size,q,none⟩=#[Value.int .i64 s.al,.int .i64 (P:Nat),.slice A n c][q]?:=fun W hW=>((b1.ext f).frm hW oM).cell;have aD:=f.size;clear ar bG j CB B;go_wp2_with fail
  go_loopw [6] (fun iv wr=>∃ (k:Nat) (v:Value),iv=.int .i64 k∧k<=n∧Gr2 w1 wr l.heap.size s.al (P:Nat) v (s.edges.take k)) (fun iv _=>n - (intOf iv).toNat)
  case atStart=>exact⟨0,_,rfl,dG _,a⟩
  case round =>
   clear a;obtain⟨k,v,rfl,Y,a⟩:=hrel;have k1:=ab wr a.fr
   by_cases hlt:k<n
   ·have aC:(k:Int)<(n:Int):=oM;have ak:=(ae.out w1 (cY _)).frm a.fr (fun k h1 h2 e=>oH t.size);obtain⟨g,o,x,rfl,aB,aA,hx,c0,H,c2⟩:=ak.2.edge hlt;obtain⟨⟨f0,f1⟩,⟨l0,l1⟩,t0,t1⟩:=Hf.out x (dB hx.out);obtain⟨p,y⟩:∃ p:Nat,Hid (x.fr=p):=⟨x.fr.toNat,by unfold Hid;omega⟩;obtain⟨d,z⟩:∃ d:Nat,Hid (x.ta=d):=⟨x.ta.toNat,by unfold Hid;omega⟩;have Q:p<P:=oH y.out;have S:d<P:=oH z.out;rw [y.out] at c0;rw [z.out] at c2;have ai:=za (fun W=>G.out p W oM);have aj:=za (fun W=>G.out d W oM);have ag:=za (HB.out p Q);have ah:=za (HB.out d S);have au:=(cY wr).alloc (.cells #[p,x.le,d] 117);have be:=dU wr 117 #[p,x.le,d];have E:=a.aw au;have aU:=za a.fr.size;have aV:=za (show zq (s.edges.take (k+1))=zq (s.edges.take k)++[.int .i64 p,.int .i64 x.le,.int .i64 d] by
     rw [dJ,hx.out,eG,zbS,← y.out,← z.out];rfl)
    have r:=za (show (s.edges.take k).length=k by rw [eK];have:=Z.out;omega);clear f0 f1 t0 t1 a;go_upto_region 6 with fail
    generalize hge:wr.heap.size=ge at *;have aH:=za hge;clear hge;generalize wr.alloc _=w2 at *;have ce:=be.cell;go_wp2_with (first
     |(go_at_call 143;with_reducible refine (zae F p tM _ oM).mono ?_;rw [ag.out];rintro e T ⟨rfl,rfl⟩)
     |(go_at_call 143;with_reducible refine (zae F d tM _ oM).mono ?_;rw [ah.out];rintro e T ⟨rfl,rfl⟩))
    have CE:=be.cells;have CG:=fun W (hW:Ext w2 W)=>(E.blk.ext hW).cell;have B:=cY w2;clear ce;refine uR (fun X=>Ext w2 X) [14,16] (zv.of [0,1,2,3,4,6,7,8,9,10,5,11,12,13,14,15,16]) ?_;refine uQ ?_;have C:=B.drew;refine zd fun K hK=>?_;go_simp;refine (ai.out _).mono ?_;rintro e T ⟨rfl,rfl⟩;refine hK.out _ _ C ?_;refine pT ?_;refine uQ ?_;refine zd fun K hK=>?_;go_simp;refine (aj.out _).mono ?_;rintro e T ⟨rfl,rfl⟩;refine hK.out _ _ C ?_;refine pT ?_;refine uQ ?_;refine zd fun K hK=>?_;go_simp;refine hK.out _ _ (C.alloc _) ?_;refine pT ?_;refine zb fun K hK=>?_;have m:=E.aw C;have J:=m.own;rw [r.out] at J;refine zaI w1 w2.drew _ _ _ rfl 117 _ 3 24 Tryz.underlying36 zaT rfl dM v k (zq (s.edges.take k)) _ _ rfl rfl m.fr.size J rfl (by simp [Value.oneCell']) lM oM ?_;intro g8 cap8 w8 hown8 hg8 hat8 hlt8;refine hK.out _ _ ?_;refine pT ?_;refine uQ ?_;obtain⟨p1,p2,p3⟩:=m.push (e:=⟨p,x.le,d⟩) (W':=w8) (by rw [r.out];exact hown8) hg8;have aW:=p1.out;have am:=za (show s.edges.take k++[⟨p,x.le,d⟩]=s.edges.take (k+1) by
     rw [dJ,hx.out,eG,← y.out,← z.out])
    rw [am.out,r.out] at p3;refine zb fun K hK=>?_;go_simp;refine hK.out _ _ ?_;refine ze ?_;clear hown8 hg8 hat8 J p1 m;generalize w8.setCell ⟨l.heap.size,2,none⟩ (.slice (some g8) (k+1) cap8)=aZ at *;go_wp2_with fail
    go_roundw
    case rel=>exact⟨k+1,_,gM,oM,p3⟩
    case measure=>simp [intOf];omega
   ·obtain rfl:k=n:=oM;rw [dI (oH Z.out)] at a;have u:=a.own;rw [← Z.out] at u;obtain⟨L,H,rfl⟩:=zi u;have V:=(b2.ext f).frm a.fr oM;have kz:=V.cell;have fz:=V.frozen;have kG:=a.blk.cell;have I:=zab wr (w.heap.size+1) (.int .i64 s.al) (.int .i64 (P:Nat)) (.slice L k H);have cf:=(zaj V rfl (.int .i64 s.al) (.int .i64 (P:Nat)) (.slice L k H)).cell;have av:Ext w wr:=(t.trans f).frm a.fr (fun k Y e=>oH t.size);have R:=za (show RetSys w s (.returned (.agg #[s.al,.int .i64 (P:Nat),.slice L k H])) (((wr.setCell ⟨w.heap.size+1,0,none⟩ s.al).setCell ⟨w.heap.size+1,1,none⟩ (.int .i64 (P:Nat))).setCell ⟨w.heap.size+1,2,none⟩ (.slice L k H)) from
     ⟨L,k,H,by rw [ad.out],⟨Z.out,zo (zf u I (fun b hv e=>zp u V dM hv e)) (t.trans f).size⟩,av.frm I (fun k Y e=>oM)⟩)
    clear I u;go_wp2_with fail
    exact bodyPost_ret (v:=.agg #[s.al,.int .i64 (P:Nat),.slice L k H]) (by simp [results,Tryz.results269,go_sem,cf]) rfl R.out
end
theorem zcz {f:Nat->Bool} {ls:List Nat}:∀ {q:Nat},(∀ l∈ls,p.al.toNat.testBit l=true->f l=true)->zcm p q (ls.filter f)=zcm p q ls:=by
 induction ls with
 |nil=>intro q _;rfl
 |cons l r a =>
  intro q h;have a:=fun {q}=>a (q:=q) (fun k hk=>h k (fM _ hk));rw [List.filter_cons];show _=zcm p (aGo p q l) r;cases hf:f l
  ·have e:aGo p q l=q:=by
    unfold aGo;rw [if_neg];intro hb;have:=h l gD hb;rw [hf] at this;cases this
   rw [e];simpa using a
  ·simp only [if_true];exact a
theorem goes_filter {f:Nat->Bool}:∀ (n:Nat) (v:List Nat),v.length=n->(∀ l∈v,s.al.toNat.testBit l=true->f l=true)->∀ q,zbm (cho s) [0] (v.filter f) q↔zbm (cho s) [0] v q:=by
 intro n
 induction n with
 |zero =>
  intro v hl _ q;obtain rfl:=dT hl;exact Iff.rfl
 |succ n b =>
  intro v hl h q;rcases zad v with rfl|⟨u,l,rfl⟩
  ·simp at hl
  have b:=b u (by simpa using hl) (fun k hk=>h k (by simp [hk]));rw [List.filter_append];cases hf:f l
  ·have c:s.al.toNat.testBit l=false:=by
    rw [eT];intro c;have:=h l sM c;rw [hf] at this;cases this
   rw [show List.filter f [l]=[] by simp [hf],gW,b];constructor
   ·intro h1;exact .snoc h1 (by unfold cho;rw [c];simp)
   ·intro h1;obtain⟨m,h2,a⟩:=h1.inv;unfold cho at a;rw [c] at a;simp at a;rw [a];exact h2
  ·rw [show List.filter f [l]=[l] by simp [hf]];constructor
   ·intro h1;obtain⟨m,h2,a⟩:=h1.inv;exact .snoc ((b m).1 h2) a
   ·intro h1;obtain⟨m,h2,a⟩:=h1.inv;exact .snoc ((b m).2 h2) a
theorem zgb {f:Nat->Bool} (h:∀ l∈v,s.al.toNat.testBit l=true->f l=true):Runs s (v.filter f)↔Runs s v:=exists_congr fun q=>goes_filter _ v rfl h q
theorem zgn (ss:List Sys) (l:Nat):(zJ ss).testBit l=true↔∃ s∈ss,s.al.toNat.testBit l=true:=by
 have b:∀ (ss:List Sys) (u:Nat),(ss.foldl (fun a s=>a|||s.al.toNat) u).testBit l=true↔u.testBit l=true∨∃ s∈ss,s.al.toNat.testBit l=true:=by
  intro ss
  induction ss with
  |nil=>intro u;simp
  |cons s r ih =>
   intro u;rw [iD,ih,gU,gA];simp [or_assoc]
 have:=b ss 0;simpa [zJ] using this
def Over (A:Nat) (v:List Nat):Prop:=∀ l∈v,l<6∧A.testBit l=true
theorem zfD {A:Nat} :(∀ l∈v,l∈letters A 6)↔Over A v:=by unfold Over;simp only [zF]
theorem keepsU_iff :zaz s a p=true↔(zj s=true∧zh a=true∧zh p=true)∧∀ v,Over (s.al.toNat|||a.al.toNat) v->Runs s v->zcU a (zcm a 0 v)=true->zcU p (zcm p 0 v)=true:=by
 unfold zaz zck;simp only [dF,fY];constructor
 ·rintro ⟨⟨h1,h2,b⟩,d⟩;refine⟨⟨h1,h2,b⟩,fun v c h f=>?_⟩;cases g:zcU p (zcm p 0 v)
  ·have:=(zhC (ss:=[s]) (by simpa using h1) h2 b).2 ⟨v,zfD.2 (by simpa [zJ] using c),by simpa using h,f,g⟩;rw [d] at this;cases this
  ·rfl
 ·rintro ⟨⟨h1,h2,b⟩,d⟩;refine⟨⟨h1,h2,b⟩,?_⟩;rw [eT];intro c;obtain⟨v,c,h,f,g⟩:=(zhC (ss:=[s]) (by simpa using h1) h2 b).1 c;have:=d v (by have:=zfD.1 c;simpa [zJ] using this) (h s sM) f;rw [g] at this;cases this
theorem runA_free (q:Nat) (v:List Nat):zcm free q v=q:=by
 induction v generalizing q with
 |nil=>rfl
 |cons l r ih =>
  show zcm free (aGo free q l) r=q;rw [show aGo free q l=q by simp [aGo,free],ih]
theorem zdF :zat ss p=true↔(zx ss=true∧zh p=true)∧∀ v,Over (zJ ss) v->(∀ s∈ss,Runs s v)->zcU p (zcm p 0 v)=true:=by
 unfold zat zcJ;simp only [dF,fY];have h:∀ v,zcU free (zcm free 0 v)=true:=fun v=>by rw [runA_free];rfl
 have g:zJ ss|||free.al.toNat=zJ ss:=by simp [free]
 constructor
 ·rintro ⟨⟨h1,h2⟩,c⟩;refine⟨⟨h1,h2⟩,fun v b f=>?_⟩;cases d:zcU p (zcm p 0 v)
  ·have:=(zhC (a:=free) (zap h1).2 zdD h2).2 ⟨v,zfD.2 (by rw [g];exact b),f,h v,d⟩;rw [c] at this;cases this
  ·rfl
 ·rintro ⟨⟨h1,h2⟩,c⟩;refine⟨⟨h1,h2⟩,?_⟩;rw [eT];intro b;obtain⟨v,b,f,i,d⟩:=(zhC (a:=free) (zap h1).2 zdD h2).1 b;have:=c v (by rw [g] at b;exact zfD.1 b) f;rw [d] at this;cases this
theorem ag_sound {ts:List Sys} (hu:zaz s a p=true)(hk:zat ts a=true)(hl:a.al.toNat=(s.al.toNat|||p.al.toNat)&&&zJ ts)(hp:zx (s :: ts)=true):zat (s :: ts) p=true:=by
 obtain⟨⟨h1,h2,q⟩,r⟩:=keepsU_iff.1 hu;obtain⟨⟨B,C⟩,x⟩:=zdF.1 hk;refine zdF.2 ⟨⟨hp,q⟩,fun v hv hr=>?_⟩;have b:∀ l,a.al.toNat.testBit l=true↔(s.al.toNat.testBit l=true∨p.al.toNat.testBit l=true)∧(zJ ts).testBit l=true:=by
  intro l;rw [hl,Nat.testBit_and,gU,dF,gA]
 have k:Over (s.al.toNat|||a.al.toNat) (v.filter fun l=>(s.al.toNat|||a.al.toNat).testBit l):=fun l hl=>by
  obtain⟨i,j⟩:=List.mem_filter.1 hl;exact⟨(hv l i).1,j⟩
 have m:Over (zJ ts) (v.filter fun l=>(zJ ts).testBit l):=fun l hl=>by
  obtain⟨i,j⟩:=List.mem_filter.1 hl;exact⟨(hv l i).1,j⟩
 have f:∀ l,s.al.toNat.testBit l=true->(s.al.toNat|||a.al.toNat).testBit l=true:=fun l h=>by rw [gU,h];rfl
 have g:∀ l,a.al.toNat.testBit l=true->(s.al.toNat|||a.al.toNat).testBit l=true:=fun l h=>by rw [gU,h,Bool.or_true]
 have y:=(zgb (fun l _ h=>f l h)).2 (hr s gD);have z:∀ t∈ts,Runs t (v.filter fun l=>(zJ ts).testBit l):=fun t ht=>(zgb (fun l _ h=>(zgn ts l).2 ⟨t,ht,h⟩)).2 (hr t (fM _ ht));have n:=x _ m z;rw [zcz (fun l _ h=>((b l).1 h).2)] at n;have o:=r _ k y;rw [zcz (fun l _ h=>g l h),zcz (fun l hl h=>?_)] at o
 ·exact o n
 ·cases hs:s.al.toNat.testBit l
  ·refine g l ((b l).2 ⟨.inr h,?_⟩);obtain⟨u,c,d⟩:=(zgn _ l).1 (hv l hl).2;rcases List.mem_cons.1 c with rfl|c
   ·rw [hs] at d;cases d
   ·exact (zgn ts l).2 ⟨u,c,d⟩
  ·exact f l hs
theorem zfF (h1:1<=ss.length)(h3:ss.length<=3)(hv:∀ s∈ss,zj s=true):zx ss=true:=by
 unfold zx;simp only [dF,decide_eq_true_eq,List.all_eq_true];exact⟨h1,h3,hv⟩
theorem zcQ :three ss p=true↔ss.length=3∧zx ss=true∧zh p=true:=by
 unfold three;simp only [dF,decide_eq_true_eq]
theorem zeq {x:Sys} (h:three [x,y,z] p=true) :
  zW [x,y,z] p=(((x.al.toNat|||p.al.toNat)&&&(y.al.toNat|||z.al.toNat):Nat):Int) ∧
  zaM [x,y,z] p=(((y.al.toNat|||(zW [x,y,z] p).toNat)&&&z.al.toNat:Nat):Int):=by
 obtain⟨_,h2,o⟩:=zcQ.1 h;obtain⟨_,j⟩:=zap h2;have u:=zI (j x sM);have v:=zI (j y sM);have B:=zI (j z sM);have t:=(zk o).1;have k:zW [x,y,z] p=(((x.al.toNat|||p.al.toNat)&&&(y.al.toNat|||z.al.toNat):Nat):Int):=by
  unfold zW;rw [h,if_pos rfl];obtain⟨a,q⟩:∃ a:Nat,x.al=a:=⟨x.al.toNat,oM⟩;obtain⟨b,f⟩:∃ a:Nat,y.al=a:=⟨y.al.toNat,oM⟩;obtain⟨c,g⟩:∃ a:Nat,z.al=a:=⟨z.al.toNat,oM⟩;obtain⟨d,s⟩:∃ a:Nat,p.al=a:=⟨p.al.toNat,oM⟩;dsimp only;rw [q,f,g,s];have k:=eB (n:=6) (x:=a) (y:=d) oM oM;have m:=eB (n:=6) (x:=b) (y:=c) oM oM;rw [zaR tM tM,zaR tM tM,zbz tM tM];simp only [eJ]
 refine⟨k,?_⟩;obtain⟨l,i,r⟩:=zca h;unfold zaM;rw [h,if_pos rfl,i];obtain⟨b,f⟩:∃ a:Nat,y.al=a:=⟨y.al.toNat,oM⟩;obtain⟨c,g⟩:∃ a:Nat,z.al=a:=⟨z.al.toNat,oM⟩;dsimp only;rw [f,g];have m:=eB (n:=6) (x:=b) (y:=l) oM oM;rw [zaR tM tM,zbz tM tM];simp only [eJ]
theorem zeQ :zaC ss p f g=0↔∃ x y z,ss=[x,y,z]∧three ss p=true∧zh f=true∧zh g=true∧f.al=zW ss p∧g.al=zaM ss p∧zaz x f p=true∧zaz y g f=true∧zat [z] g=true:=by
 constructor
 ·intro h;unfold zaC at h
  by_cases h1:(three ss p&&(zh f&&zh g))=false
  ·rw [if_pos h1] at h;omega
  rw [if_neg h1] at h
  by_cases h2:(decide (f.al=zW ss p)&&decide (g.al=zaM ss p))=false
  ·rw [if_pos h2] at h;omega
  rw [if_neg h2] at h;simp only [jA,dF,decide_eq_true_eq] at h1 h2;obtain⟨x,y,z,rfl⟩:=zbw h1.1;dsimp only at h
  by_cases a:(zaz x f p&&zaz y g f)=false
  ·rw [if_pos a] at h;omega
  rw [if_neg a] at h
  by_cases b:zat [z] g=false
  ·rw [if_pos b] at h;omega
  simp only [jA,dF] at a b;exact⟨x,y,z,rfl,h1.1,h1.2.1,h1.2.2,h2.1,h2.2,a.1,a.2,b⟩
 ·rintro ⟨x,y,z,rfl,h1,h2,a,b,c,d,i,j⟩;unfold zaC;rw [if_neg (by rw [h1,h2,a];decide),if_neg (by rw [decide_eq_true b,decide_eq_true c];decide)];dsimp only;rw [if_neg (by rw [d,i];decide),if_neg (by rw [j];decide)]
theorem zdp (hs:zj s=true)(hp:zh p=true)(ht:zj t=true):iface s p t=(((s.al.toNat|||p.al.toNat)&&&t.al.toNat:Nat):Int):=by
 unfold iface;rw [hs,hp,ht];rfl
theorem zfP :zes s t p a=0↔0<=iface s p t∧zh a=true∧a.al=iface s p t∧zaz s a p=true∧zat [t] a=true:=by
 unfold zes;constructor
 ·intro h
  by_cases h1:iface s p t<0∨zh a=false
  ·rw [if_pos h1] at h;omega
  rw [if_neg h1] at h
  by_cases h2:a.al≠iface s p t
  ·rw [if_pos h2] at h;omega
  rw [if_neg h2] at h
  by_cases b:zaz s a p=false
  ·rw [if_pos b] at h;omega
  rw [if_neg b] at h
  by_cases c:zat [t] a=false
  ·rw [if_pos c] at h;omega
  simp only [jA] at b c;refine⟨?_,?_,Classical.not_not.1 h2,b,c⟩
  ·apply Classical.byContradiction;intro hn;exact h1 (.inl oM)
  ·cases hb:zh a
   ·exact absurd (.inr hb) h1
   ·rfl
 ·rintro ⟨h1,h2,b,c,d⟩;rw [if_neg (by rintro (h|h);omega;rw [h2] at h;cases h),if_neg (by intro h;exact h b),if_neg (by rw [c];decide),if_neg (by rw [d];decide)]
theorem zew (h:0<=iface s p t):zj s=true∧zh p=true∧zj t=true:=by
 have h1:¬ iface s p t<0:=oM;rw [iface_neg] at h1;simpa using h1
theorem faultA_sound (h:zes s t p a=0):zat [s,t] p=true:=by
 obtain⟨h1,h2,d,f,g⟩:=zfP.1 h;obtain⟨b,i,c⟩:=zew h1;refine ag_sound f g ?_ (zfF sM sM (by simp;exact⟨b,c⟩));rw [d,zdp b i c];simp [zJ]
theorem chain_sound (h:zaC ss p f g=0):zat ss p=true∧∃ x y z,ss=[x,y,z]∧zat [y,z] f=true∧zes y z f g=0:=by
 obtain⟨x,y,z,rfl,h1,h2,n,c,o,q,r,s⟩:=zeQ.1 h;obtain⟨_,a,u⟩:=zcQ.1 h1;obtain⟨_,j⟩:=zap a;have k:=j y sM;have l:=j z sM;obtain⟨m,b⟩:=zeq h1;rw [← c] at b;have t:iface y f z=g.al:=by rw [zdp k h2 l,o,b]
 have d:zes y z f g=0:=zfP.2 ⟨by rw [zdp k h2 l];omega,n,t.symm,r,s⟩;have i:=faultA_sound d;refine⟨ag_sound q i ?_ a,x,y,z,rfl,i,d⟩;rw [c,m];simp [zJ]
theorem runs_less (hal:u.al=t.al)(he:∀ e∈u.edges,e∈t.edges) (h:Runs u v):Runs t v:=by
 obtain⟨q,g⟩:=h;have a:∀ n (v:List Nat),v.length=n->∀ q,zbm (cho u) [0] v q->zbm (cho t) [0] v q:=by
  intro n
  induction n with
  |zero =>
   intro v hl q h;obtain rfl:=dT hl;exact .nil h.ah
  |succ n ih =>
   intro v hl q h;rcases zad v with rfl|⟨w,l,rfl⟩
   ·simp at hl
   obtain⟨m,h1,h2⟩:=h.inv;refine .snoc (ih w (by simpa using hl) m h1) ?_;unfold cho at h2 ⊢;rw [hal] at h2;split
   ·rename_i hb;rw [if_pos hb] at h2;obtain⟨b,c⟩:=zF.1 h2;obtain⟨e,d,f⟩:=(zdJ _ _ _ _).1 c;exact zF.2 ⟨b,(zdJ _ _ _ _).2 ⟨e,he e d,f⟩⟩
   ·rename_i hb;rw [if_neg hb] at h2;exact h2
 exact⟨q,a _ v rfl q g⟩
theorem keepsP_less (hv:zj u=true)(hal:u.al=t.al)(he:∀ e∈u.edges,e∈t.edges)(h:zat [t] a=true):zat [u] a=true:=by
 obtain⟨⟨h1,h2⟩,b⟩:=zdF.1 h;refine zdF.2 ⟨⟨zfF sM sM (by simpa using hv),h2⟩,fun v ho hr=>b v (by simpa [zJ,hal] using ho) ?_⟩;have:=hr u sM;simp only [List.mem_singleton,forall_eq];exact runs_less hal he this
theorem chain_fewer {x:Sys} (hv:zj u=true)(hal:u.al=z.al)(he:∀ e∈u.edges,e∈z.edges)(h:zaC [x,y,z] p f g=0):zaC [x,y,u] p f g=0:=by
 obtain⟨C,D,E,e,h1,h2,o,q,r,t,v,B⟩:=zeQ.1 h;injection e with c e;injection e with i e;injection e with e3 _
 subst c;subst i;subst e3;obtain⟨_,k,l⟩:=zcQ.1 h1;obtain⟨_,b⟩:=zap k;have a:three [x,y,u] p=true:=zcQ.2 ⟨rfl,zfF sM sM (by
  intro s hs;simp only [List.mem_cons,List.not_mem_nil,or_false] at hs;rcases hs with rfl|rfl|rfl
  ·exact b _ sM
  ·exact b _ sM
  ·exact hv),l⟩
 obtain⟨c,i⟩:=zeq h1;obtain⟨d,j⟩:=zeq a;have m:zW [x,y,u] p=zW [x,y,z] p:=by rw [c,d,hal]
 have n:zaM [x,y,u] p=zaM [x,y,z] p:=by rw [i,j,hal,m]
 exact zeQ.2 ⟨x,y,u,rfl,a,h2,o,by rw [m];exact q,by rw [n];exact r,t,v,keepsP_less hv hal he B⟩
def RetSt (N:Nat) (Q:Nat->Nat->Prop) (w:World) (e:Ending) (w':World):Prop:=
 ∃ (T:List Nat) (g c:Nat),e=.returned (.slice (some g) N c)∧w'.ownsRow w.heap.size 3 1 (.slice (some g) N c) N (zah T)∧zdV T N Q∧Ext w w'
def mset (s:Sys) (x l:Nat):Nat:=if s.al.toNat.testBit l then zdn s.edges x (l:Int) else x
theorem mset_bit (hs:Sml s) (x l q':Nat):(mset s x l).testBit q'=true↔∃ q,x.testBit q=true∧q'∈cho s q l:=by
 unfold mset;split
 ·rename_i h;exact zhw hs h x q'
 ·rename_i h;constructor
  ·intro h1;exact⟨q',h1,by unfold cho;rw [if_neg h];simp⟩
  ·rintro ⟨q,h1,h2⟩;unfold cho at h2;rw [if_neg h] at h2;simp at h2;rw [h2];exact h1
theorem mset_lt (hs:Sml s) {x:Nat}(hx:x<65536) (l:Nat):mset s x l<65536:=by
 unfold mset;split
 ·exact zgQ hs _ _
 ·exact hx
structure MvI (s:Sys) (p:Aut) (l N:Nat) (T:List Nat) (k:Nat) (O:List Nat):Prop where
 len:O.length=N
 lt:∀ x∈O,x<65536
 bit:∀ j q',bitS O j q'↔∃ i q,i<k∧bitS T i q∧q'∈cho s q l∧j=aGo p i l
theorem MvI.step {l:Nat} (h:MvI s p l N T k O)(hs:Sml s)(hp:zh p=true)(hN:N=p.next.length)(hT:∀ x∈T,x<65536)(hk:k<N)(hl:l<6) :
  MvI s p l N T (k+1) (O.set (aGo p k l) (O.getD (aGo p k l) 0|||mset s (T.getD k 0) l)):=by
 have f:aGo p k l<O.length:=by rw [h.len,hN];exact zfa hp oM hl
 refine⟨by rw [List.length_set];exact h.len,fun x c=>?_,fun j q'=>?_⟩
 ·rcases List.mem_or_eq_of_mem_set c with c|rfl
  ·exact h.lt x c
  ·exact eB (n:=16) (zeb h.lt _) (mset_lt hs (zeb hT _) _)
 ·rw [zgV f,h.bit,mset_bit hs];constructor
  ·rintro (⟨i,q,h1,h2,a,b⟩|⟨h1,q,h2,a⟩)
   ·exact⟨i,q,oM,h2,a,b⟩
   ·exact⟨k,q,oM,h2,a,h1⟩
  ·rintro ⟨i,q,h1,h2,a,b⟩;rcases eV (gH h1) with d|rfl
   ·exact .inl ⟨i,q,d,h2,a,b⟩
   ·exact .inr ⟨b,q,h2,a⟩
theorem MvI.zero (s:Sys) (p:Aut) (l N:Nat) (T:List Nat):MvI s p l N T 0 (dS N 0):=by
 refine⟨sM,fun x hx=>by rw [iW] at hx;omega,fun j q'=>?_⟩;constructor
 ·intro h;unfold bitS at h;rw [List.getD_eq_getElem?_getD] at h;cases h1:(dS N 0)[j]? with
  |none=>rw [h1] at h;simp at h
  |some x =>
   have:=dB h1;rw [iW] at this;rw [h1,this.2] at h;simp at h
 ·rintro ⟨_,_,h,_⟩;omega
theorem MvI.fin {l:Nat}  {B:Nat->Nat->Prop}(h:MvI s p l N T N O)(hT:zdV T N B):zdV O N (mvB s p l B):=by
 refine⟨h.len,h.lt,fun j q'=>?_⟩;rw [h.bit];constructor
 ·rintro ⟨i,q,h1,h2,a,b⟩;exact⟨q,i,(hT.2.2 i q).1 h2,a,b⟩
 ·rintro ⟨q,i,h2,a,b⟩;have c:=(hT.2.2 i q).2 h2;exact⟨i,q,by rw [← hT.1];exact bitS_lt c,c,a,b⟩
def badT (p:Aut) (T:List Nat) (N:Nat):Bool:=(List.range N).any fun i=>T.getD i 0 != 0&&!zcU p i
theorem zgT :badT p T N=true↔∃ i,i<N∧T.getD i 0≠0∧zcU p i=false:=by
 unfold badT;rw [List.any_eq_true];constructor
 ·rintro ⟨i,h1,h2⟩;rw [List.mem_range] at h1;simp only [dF,bne_iff_ne,fY] at h2;exact⟨i,h1,h2.1,h2.2⟩
 ·rintro ⟨i,h1,h2,a⟩;exact⟨i,List.mem_range.2 h1,by simp [a];simpa using h2⟩
section
variable {w:World} {lo hi n c m d m' d' L:Nat} {A B B':Option Addr} {s:Sys} {p:Aut}
theorem spec_l9Start (hS:zR w lo hi A n s)(hP:zE w lo hi B m B' m' p)(hv:zj s=true)(hp:zh p=true)(hL:L<64)(hhi:hi<=w.heap.size)(hN:N=p.next.length) :
  Calls Tryz.prog 147 #[.agg #[s.al,s.st,.slice A n c,p.al,.slice B m d,.slice B' m' d',L]] w (RetSt N (PR s p L []) w):=by
 have J:m=N:=hP.n1.trans hN.symm;subst J;have g:1<=m∧m<=12:=by have:=(zk hp).2.1;omega
 have E:=za (fun W (hW:Ext w W)=>hS.ext hW);have D:=za (fun W (hW:Ext w W)=>hP.ext hW);have C:=za hN;clear hS hP hN
 go_enter Tryz.func147,Tryz.ntmps147
 go_upto_region 1 with fail
 generalize U0:w.alloc _=w1 at *;obtain⟨a,o⟩:=gK U0;have G:=o.lt;clear U0;have z:=o.cell;go_upto_region 2 with (at_make;refine zbM w1 w1 rfl _ _ 110 rfl 3 _ 1 8 Tryz.underlying110 zZ _ _ m rfl rfl (cY _) oM lM ?_;intro w2 hx2 zhN hx23 hsz2)
 rw [madeZ] at zhN;have j:=(zhN.stored 0 (.int .i64 1)).1;rw [show (zah (dS m 0)).set 0 (.int .i64 1)=zah ((dS m 0).set 0 1) from (zfC (i:=0) (v:=1) (R:=dS m 0)).symm] at j;have I:=zhN.frozenAt 0;have H:=zda zhN (show 0<m by omega);have f:=(a.trans hx2).setCell (p:=⟨w1.heap.size,0,none⟩) a.size (.int .i64 1);have y:=(o.ext hx2).far (p:=⟨w1.heap.size,0,none⟩) (by dsimp only;omega) (.int .i64 1);have F:(0:Int)<(m:Int):=oM;clear z;have z:=y.cell;have O:=za (fun l (hT':zdV l m (fun q i=>q=0∧i=0))=>hT');have t:=E.out _ f;have r:=D.out _ f;have u:=stand_start g.1;have M:=a.size;clear hx23;go_wp2_with fail
 refine (zfi (c:=c) (d:=d) (d':=d') t r hv hp hL C.out oM j u).mono ?_;rintro e Q ⟨l,rfl,b,x,h⟩;go_wp2_with fail
 go_ret;exact⟨l,w1.heap.size,m,rfl,zo b a.size,x,f.frm h (fun k hk e=>oM)⟩
theorem spec_l9Move {l:Nat}  {Q:Nat->Nat->Prop}(hS:zR w lo hi A n s)(hP:zE w lo hi B m B' m' p)(hv:zj s=true)(hp:zh p=true)(hL:L<64)(hhi:hi<=w.heap.size)(hN:N=p.next.length)(hl:l<6)
  (zhD:w.ownsRow b0 3 1 (.slice (some g0) N c0) N (zah T)) (hT:zdV T N Q) :
  Calls Tryz.prog 149 #[.agg #[s.al,s.st,.slice A n c,p.al,.slice B m d,.slice B' m' d',L],.slice (some g0) N c0,l] w (RetSt N (Cl s p L (mvB s p l Q)) w):=by
 have D:=zcu hv;obtain⟨aE,aF⟩:=zI hv;obtain⟨al,C⟩:∃ al:Nat,Hid (s.al=al):=⟨s.al.toNat,by unfold Hid;omega⟩;have am:al<64:=oH C.out;have U:=za (show s.al.toNat=al by have:=C.out;omega);have av:1<=N∧N<=12:=by have:=(zk hp).2.1;omega
 have HS:=za (fun W (hW:Ext w W)=>hS.ext hW);have HP:=za (fun W (hW:Ext w W)=>hP.ext hW);have J:=za hN;have HT:=za hT;have aH:=(zhD.lt g0 rfl).2;clear hS hP hN hT
 go_enter Tryz.func149,Tryz.ntmps149
 go_upto_region 1 with fail
 generalize U0:w.alloc _=w1 at *;obtain⟨V,b1⟩:=gK U0;have aG:=b1.lt;clear U0;go_wp2_with (at_make;refine zbM w1 w1 rfl _ _ 110 rfl 3 _ 1 8 Tryz.underlying110 zZ _ _ N rfl rfl (cY _) oM lM ?_;intro w2 hx2 zhN hx23 hsz2)
 rw [madeZ] at zhN;have ay:=V.size;have ap:=V.trans hx2;clear hx23;obtain⟨r,S⟩:∃ r,r=w1.heap.size:=⟨_,rfl⟩;rw [← S] at zhN ⊢;have aD:w.heap.size<r:=oM;clear S
 go_loopw [8] (fun iv wr=>∃ (i:Nat) (O:List Nat),iv=.int .i64 i∧i<=N∧Hid (MvI s p l N T i O)∧wr.ownsRow r 3 1 (.slice (some r) N N) N (zah O)∧Frm (fun k=>k=r) w2 wr) (fun iv _=>N - (intOf iv).toNat)
 case atStart=>exact⟨0,_,rfl,dG _,za (MvI.zero s p l N T),zhN,iL _ _⟩
 case round =>
  clear zhN;obtain⟨i,O,rfl,hi,hO,f,t⟩:=hrel;have h:Ext w wr:=ap.frm t (fun k hk e=>oM);have k1:=((b1.ext hx2).frm t oM).cell
  by_cases hlt:i<N
  ·have ax:(i:Int)<(N:Int):=oM;have cI:=zda (zg zhD h) hlt;obtain⟨x,hx⟩:∃ x,Hid (T.getD i 0=x):=⟨_,rfl⟩;have X:x<65536:=by rw [← hx.out];exact zeb HT.out.2.1 i
   rw [hx.out] at cI;have CB:∀ W,Ext wr W->∀ q,W.cell? ⟨w.heap.size,q,none⟩=#[Value.int .i64 al,.int .i64 s.st,.slice A n c,.int .i64 p.al,.slice B m d,.slice B' m' d',.int .i64 L][q]?:=fun W hW q=>by rw [(((b1.ext hx2).frm t oM).ext hW).cell,C.out]
   have CI:∀ W,Ext wr W->W.cell? ⟨g0,i,none⟩=some (.int .i64 (x:Nat)):=fun W hW=>hW.aa cI;obtain⟨j,hj⟩:∃ j,Hid (aGo p i l=j):=⟨_,rfl⟩;have an:j<N:=by rw [← hj.out,J.out];exact zfa hp (by rw [← J.out];exact hlt) hl
   have aw:(j:Int)<(N:Int):=oM;obtain⟨v,H⟩:∃ v,Hid (O.getD j 0=v):=⟨_,rfl⟩;obtain⟨y,hy⟩:∃ y,Hid (mset s x l=y):=⟨_,rfl⟩;obtain⟨u,hu⟩:∃ u,Hid (v|||y=u):=⟨_,rfl⟩;have aA:v<65536:=by rw [← H.out];exact zeb hO.out.lt j
   have aB:y<65536:=by rw [← hy.out];exact mset_lt D X l
   have ao:=zaR (a:=v) (b:=y) tM tM;rw [hu.out] at ao;have CJ:∀ W,Ext wr W->W.cell? ⟨r,j,none⟩=some (.int .i64 (v:Nat)):=fun W hW=>hW.aa (H.out ▸ zda f an);have FJ:∀ W,Ext wr W->W.frozen? ⟨r,j,none⟩=false:=fun W hW=>(zg f hW).frozenAt j;have g:=hO.out.step D hp J.out HT.out.2.1 hlt hl;rw [hj.out,H.out,hx.out,hy.out,hu.out] at g;have o:=za g;have M:=za (fun W (hW:Ext wr W)=>((zg f hW).stored j (.int .i64 (u:Nat))).1);have aI:=cY wr;clear g k1 cI;cases hb:al.testBit l
   ·have Hb:=za hb;have I:x=y:=by rw [← hy.out];unfold mset;rw [U.out,hb];rfl
    subst I;clear hb;go_wp2_with (first
     |(go_at_call 143;refine (zae al l tM _ oM).mono ?_;rw [Hb.out];rintro e w' ⟨rfl,rfl⟩)
     |(go_at_call 225;refine (zcN (HP.out _ h) hp (by rw [← J.out];exact hlt) hl).mono ?_;rw [hj.out];rintro e w4 ⟨rfl,E⟩))
    have z:=M.out w4 E;rw [← zfC] at z;go_roundw
    case rel=>exact⟨i+1,O.set j u,gM,oM,o,z,(t.ext E).trans (dE _ r j _)⟩
    case measure=>simp [intOf];omega
   ·have Hb:=za hb;have I:Hid (zdn s.edges x (l:Int)=y):=by unfold Hid;rw [← hy.out];unfold mset;rw [U.out,hb];rfl
    clear hb;go_wp2_with (first
     |(go_at_call 143;refine (zae al l tM _ oM).mono ?_;rw [Hb.out];rintro e w' ⟨rfl,rfl⟩)
     |(go_at_call 224;rw [← C.out];refine (zgi (c:=c) (k0:=s.st.toNat) (HS.out _ h) D.2.2.1 (oH D.2.1) tM).mono ?_;rw [I.out];rintro e w3 ⟨rfl,Y⟩;have Z:=h.trans Y)
     |(go_at_call 225;refine (zcN (HP.out _ Z) hp (by rw [← J.out];exact hlt) hl).mono ?_;rw [hj.out];rintro e w4 ⟨rfl,E⟩;have F:=Y.trans E))
    have z:=M.out w4 F;rw [← zfC] at z;go_roundw
    case rel=>exact⟨i+1,O.set j u,gM,oM,o,z,(t.ext F).trans (dE _ r j _)⟩
    case measure=>simp [intOf];omega
  ·obtain rfl:i=N:=oM;have ar:=hO.out.fin HT.out;go_wp2_with fail
   refine (zfi (c:=c) (d:=d) (d':=d') (HS.out _ h) (HP.out _ h) hv hp hL J.out oM f ar).mono ?_;rintro e w4 ⟨T',rfl,G,ak,R⟩;go_wp2_with fail
   go_ret;exact⟨T',r,i,rfl,zo G oM,ak,h.frm R (fun k hk e=>oM)⟩
end
noncomputable def zr (s:Sys) (p:Aut) (L:Nat) (t:ByteArray):Bool:=by
 classical exact inB t L&&decide (SafeW s p L (wl t))
theorem zgc {t:ByteArray}:zr s p L t=true↔inB t L=true∧SafeW s p L (wl t):=by
 unfold zr;simp
section
variable {w:World} {lo hi n c m d m' d' L:Nat} {A B B':Option Addr} {s:Sys} {p:Aut}
theorem spec_l9Bad (hP:zE w lo hi B m B' m' p)(hp:zh p=true)(hN:N=p.next.length)
  (zhD:w.ownsRow b0 3 1 (.slice (some g0) N c0) N (zah T)) :
  Calls Tryz.prog 148 #[.agg #[s.al,s.st,.slice A n c,p.al,.slice B m d,.slice B' m' d',L],.slice (some g0) N c0] w fun e w'=>e=.returned (.bool (badT p T N))∧Ext w w':=by
 have t:1<=N∧N<=12:=by have:=(zk hp).2.1;omega
 have l:m'=N:=by rw [hP.n2,(zk hp).2.2.1,hN]
 have v:=za (fun W (hW:Ext w W) q hq=>zeo (q:=q) (hP.ext hW) hq);obtain⟨w1,U0⟩:∃ x,Hid (w.alloc (.cells #[s.al,s.st,.slice A n c,p.al,.slice B m d,.slice B' m' d',L] 70)=x):=⟨_,za rfl⟩;have b:Ext w w1:=((cY _).alloc _).trans (Ext.eq_ U0.out);have y:=Ext.bl_ U0.out;subst l;clear hP hN
 go_enter Tryz.func148,Tryz.ntmps148
 go_upto_region 1 with fail
 rw [U0.out] at *;have F:=y.cell;go_wp2_with fail
 go_loop [5] (fun iv=>∃ i:Nat,iv=.int .i64 i∧i<=m'∧Hid (∀ j,j<i->T.getD j 0=0∨zcU p j=true)) (fun iv=>m' - (intOf iv).toNat)
 case atStart=>exact⟨0,rfl,dG _,za (fun j h=>oM)⟩
 case round =>
  obtain⟨i,rfl,hi,a⟩:=hrel
  by_cases hlt:i<m'
  ·have u:(i:Int)<(m':Int):=oM;obtain⟨E,rfl,r⟩:=v.out w1 b i hlt;have z:=zda (zg zhD b) hlt;obtain⟨x,o⟩:∃ x,Hid (T.getD i 0=x):=⟨_,rfl⟩;rw [o.out] at z
   by_cases h0:x=0
   ·subst h0;go_wp2_with fail
    go_round
    case rel=>exact⟨i+1,gM,oM,za (fun j hj=>by
     rcases eV (gH hj) with h1|rfl
     ·exact a.out j h1
     ·exact .inl o.out)⟩
    case measure=>simp [intOf];omega
   ·have D:((x:Int) != 0)=true:=by simp;omega
    cases zhE:zcU p i
    ·have k:=za (show badT p T m'=true from zgT.2 ⟨i,hlt,by rw [o.out];exact h0,zhE⟩);rw [zhE] at r;clear zhE h0;go_wp2_with fail
     go_ret;exact⟨zl (by rw [k.out]),b⟩
    ·have f:=za zhE;rw [zhE] at r;clear zhE h0;go_wp2_with fail
     go_round
     case rel=>exact⟨i+1,gM,oM,za (fun j hj=>by
      rcases eV (gH hj) with h1|rfl
      ·exact a.out j h1
      ·exact .inr f.out)⟩
     case measure=>simp [intOf];omega
  ·obtain rfl:i=m':=oM;have k:=za (show badT p T i=false by
    rw [eT];intro h;obtain⟨j,h1,h2,C⟩:=zgT.1 h;rcases a.out j h1 with g|g
    ·exact h2 g
    ·rw [C] at g;cases g)
   go_wp2_with fail
   go_ret;exact⟨zl (by rw [k.out]),b⟩
theorem zdT (hS:zR w lo hi A n s)(hP:zE w lo hi B m B' m' p)(hv:zj s=true)(hp:zh p=true)(hL:L<64) :
  Calls Tryz.prog 145 #[.agg #[s.al,s.st,.slice A n c,p.al,.slice B m d,.slice B' m' d',L]] w fun e w'=>e=.returned (.bool true)∧Ext w w':=by
 have j:=za (fun W (hW:Ext w W)=>zag (c:=c) (hS.ext hW));have i:=za (fun W (hW:Ext w W)=>zA _ _ _ _ d _ _ d' _ _ (hP.ext hW));rw [hv] at j;rw [hp] at i;have g:=za (show (decide ((0:Int)<=L∧(L:Int)<=63))=true by simp;omega);clear hS hP hv hp
 go_enter Tryz.func145,Tryz.ntmps145
 go_upto_region 1 with fail
 generalize U0:w.alloc _=w1 at *;obtain⟨a,k⟩:=gK U0;clear U0;have o:=k.cells;have l:=cY w1;go_wp2_with (first
  |(go_at_call 185;refine (j.out _ a).mono (mQ fun q b=>?_))
  |(go_at_call 79;refine (i.out _ (a.trans b)).mono (mQ fun r h=>?_);have f:=b.trans h)
  |(go_at_call 142;refine (zN _ _).mono ?_;rw [g.out];rintro e t ⟨rfl,rfl⟩))
 go_ret;exact⟨rfl,a.trans f⟩
theorem zgU (h:zdV T N (PR s p L (v.take k))):badT p T N=true↔Bad s p L (v.take k):=zgT.trans (stand_bad h).symm
theorem zdd {t:ByteArray}(hS:zR w lo hi A n s)(hP:zE w lo hi B m B' m' p)(hv:zj s=true)(hp:zh p=true)(hL:L<64)(hhi:hi<=w.heap.size)(ht:t.size<=9223372036854775807) :
  Calls Tryz.prog 62 #[.agg #[s.al,s.st,.slice A n c,p.al,.slice B m d,.slice B' m' d',L],t] w fun e w'=>e=.returned (.bool (zr s p L t))∧Ext w w':=by
 obtain⟨N,Z⟩:∃ N,Hid (N=p.next.length):=⟨_,rfl⟩;have HV:=za (fun W (hW:Ext w W)=>zdT (c:=c) (d:=d) (d':=d') (L:=L) (hS.ext hW) (hP.ext hW) hv hp hL);have V:=za (fun W (hW:Ext w W)=>spec_l9Start (c:=c) (d:=d) (d':=d') (L:=L) (N:=N) (hS.ext hW) (hP.ext hW) hv hp hL (dK hhi hW.size) Z.out);have S:=za (fun (g0 D c0:Nat) (T:List Nat) W (hW:Ext w W) (ho:W.ownsRow D 3 1 (.slice (some g0) N c0) N (zah T))=>spec_l9Bad (A:=A) (n:=n) (c:=c) (d:=d) (d':=d') (L:=L) (s:=s) (hP.ext hW) hp Z.out ho);have HM:=za (fun (l g0 D c0:Nat) (T:List Nat) (Q:Nat->Nat->Prop) W (hW:Ext w W) (M:l<6) (ho:W.ownsRow D 3 1 (.slice (some g0) N c0) N (zah T)) (y:zdV T N Q)=>spec_l9Move (c:=c) (d:=d) (d':=d') (L:=L) (hS.ext hW) (hP.ext hW) hv hp hL (dK hhi hW.size) Z.out M ho y);have a:Ext w (w.alloc (.cells #[s.al,s.st,.slice A n c,p.al,.slice B m d,.slice B' m' d',L] 70)):=(cY _).alloc _;have b1:=dU w 70 #[s.al,s.st,.slice A n c,p.al,.slice B m d,.slice B' m' d',L];clear hS hP;cases hin:inB t L
 ·have x:=za hin;have u:=za (show zr s p L t=false by rw [eT];intro h;have:=(zgc.1 h).1;rw [hin] at this;cases this);clear hin
  go_enter Tryz.func62,Tryz.ntmps62
  go_upto_region 1 with fail
  generalize w.alloc _=w1 at *;have CB:=b1.cells;have af:=cY w1;go_wp2_with (first
   |(go_at_call 145;refine (HV.out _ a).mono (mQ fun w2 q=>?_))
   |(go_at_call 146;refine (zaH ht oM).mono ?_;rw [x.out];rintro e w3 ⟨rfl,rfl⟩))
  go_ret;exact⟨zl (by rw [u.out]),a.trans q⟩
 ·have x:=za hin;have Y:=za (fun k hk=>zbi (zbj hin) (k:=k) hk);clear hin
  go_enter Tryz.func62,Tryz.ntmps62
  go_upto_region 1 with fail
  generalize w.alloc _=w1 at *;have CB:=b1.cells;have af:=cY w1;go_wp2_with (first
   |(go_at_call 145;refine (HV.out _ a).mono (mQ fun w2 q=>?_))
   |(go_at_call 146;refine (zaH ht oM).mono ?_;rw [x.out];rintro e w3 ⟨rfl,rfl⟩)
   |(go_at_call 147;refine (V.out _ (a.trans q)).mono ?_;rintro e w4 ⟨T,g,H,rfl,f,y,R⟩;have C:=q.trans R))
  go_loopw [5,6] (fun v iv wr=>∃ (k g D H:Nat) (T:List Nat),iv=.int .i64 k∧k<=t.size∧v=.slice (some g) N H∧wr.ownsRow D 3 1 (.slice (some g) N H) N (zah T)∧Hid (zdV T N (PR s p L ((wl t).take k)))∧Hid (∀ j,j<k->¬ Bad s p L ((wl t).take j))∧Ext w1 wr) (fun _ iv _=>t.size - (intOf iv).toNat)
  case atStart=>exact⟨0,g,_,H,T,rfl,dG _,rfl,f,za (by simpa using y),za (fun j h=>oM),C⟩
  case round =>
   clear f y q R C;obtain⟨k,g,D,H,T,rfl,hk,rfl,f,y,o,b⟩:=hrel
   by_cases hlt:k<t.size
   ·have aj:(k:Int)<(t.size:Int):=oM;obtain⟨l,M⟩:∃ l:Nat,Hid ((t[k].toNat:Int) - 97=l):=⟨t[k].toNat - 97,by unfold Hid;have:=Y.out k hlt;omega⟩;have ab:l<6:=by have:=M.out;have:=Y.out k hlt;omega
    have ae:=za (show (wl t).take (k+1)=(wl t).take k++[l] by rw [dJ,zeL hlt,eG,show t[k].toNat - 97=l by have:=M.out;have:=Y.out k hlt;omega]);cases hbad:badT p T N
    ·have i:=za hbad;have ad:=za (show ¬ Bad s p L ((wl t).take k) by rw [← zgU y.out,hbad];decide);clear hbad;go_wp2_with (first|(go_at_call 148;refine (S.out _ _ _ _ _ (a.trans b) f).mono ?_;rw [i.out];rintro e w5 ⟨rfl,z⟩;have r:=b.trans z))
     have I:=za (fun W (hW:Ext wr W)=>HM.out l g D H T _ W ((a.trans b).trans hW) ab (zg f hW) y.out);have U:=fun W (hW:Ext wr W)=>CB W (b.trans hW)
     go_region_held3 (fun W=>Ext wr W) (first|assumption|(refine eZ ?_;assumption)|(refine eE ?_ aM;assumption)|(refine eE ?_ aM;refine eZ ?_;assumption)) (first
      |(go_at_call 144;refine (zbf t k hlt _).mono ?_;rw [M.out];rintro e w6 ⟨rfl,rfl⟩)
      |(go_at_call 149;refine (I.out _ ?_).mono ?_;(first|assumption|(refine eZ ?_;assumption));rintro e w7 ⟨T7,g7,c7,rfl,F,E,ar⟩))
     have O:Ext w1 w7:=b.trans aM;rw [← PR_snoc,← ae.out] at E;have X:=za E;clear E I U;go_wp2_with fail
     go_roundw
     case rel=>exact⟨k+1,g7,_,c7,T7,gM,oM,rfl,F,X,za (fun j hj=>by
      rcases eV (gH hj) with h1|rfl
      ·exact o.out j h1
      ·exact ad.out),O⟩
     case measure=>simp [intOf];omega
    ·have i:=za hbad;have u:=za (show zr s p L t=false by
      rw [eT];intro h;exact (zgc.1 h).2 k (by rw [zgq];omega) ((zgU y.out).1 hbad))
     clear hbad;go_wp2_with (first
      |(go_at_call 148;with_reducible refine (S.out _ _ _ _ _ (a.trans b) f).mono ?_;rw [i.out];rintro e w5 ⟨rfl,z⟩;have r:=b.trans z)
      |(go_at_call 148;refine (S.out _ _ _ _ _ (a.trans r) (zg f z)).mono ?_;rw [i.out];rintro e w6 ⟨rfl,G⟩))
     go_ret;exact⟨zl (by rw [u.out]),a.trans (r.trans G)⟩
   ·have J:k=t.size:=oM;have aq:(t.size:Int)<=(k:Int):=oM;have u:=za (show zr s p L t=!badT p T N by
     rw [Bool.eq_iff_iff,zgc,fY,← Bool.not_eq_true,zgU y.out];constructor
     ·intro h;exact h.2 k (by rw [zgq];omega)
     ·intro h;refine⟨x.out,fun j hj=>?_⟩;rw [zgq] at hj;rcases eV hj with h1|rfl
      ·exact o.out j oM
      ·rw [J] at h;exact h)
    clear J hlt hk;go_wp2_with (first
     |(go_at_call 148;refine (S.out _ _ _ _ _ (a.trans b) f).mono (mQ fun w6 G=>?_)))
    go_ret;exact⟨zl (by rw [u.out]),a.trans (b.trans G)⟩
end
def RetNumS (w:World) (e:Ending) (w':World):Prop:=∃ (n:Int) (ok:Bool),e=.returned (.tuple #[n,.bool ok])∧w=w'
theorem zdf {s:ByteArray} (hs:s.size<=1000000) :
  Calls Tryz.prog 258 #[s] w (RetNumS w):=by
 by_cases h0:s.size=0
 ·have c:¬ 0<s.size:=oM
  go_enter Tryz.func258,Tryz.ntmps258
  go_wp2;go_ret2;exact⟨0,false,rfl,rfl⟩
 have c:0<s.size:=oM;cases hm:((s[0].toNat:Int)==45)
 ·have m:0<s.size:=c
  by_cases z0:s.size=0
  ·go_enter Tryz.func258,Tryz.ntmps258
   go_wp2;go_ret2;exact⟨0,false,rfl,rfl⟩
  have q:0<s.size:=oM;have f:((s.size:Int)==0)=false:=by rw [beq_eq_false_iff_ne];omega
  by_cases z2:17<s.size
  ·have a:(17:Int)<(s.size:Int):=oM
   go_enter Tryz.func258,Tryz.ntmps258
   go_wp2;go_ret2;exact⟨0,false,rfl,rfl⟩
  have a:(s.size:Int)<=17:=oM;cases z3:((s[0].toNat:Int)==48)
  ·go_enter Tryz.func258,Tryz.ntmps258
   go_wp2_with fail
   go_loop [5,6] (fun v i=>∃ (k:Nat) (n:Int),k<=s.size∧i=.int .i64 k∧v=.int .i64 n) (fun _ i=>s.size - (intOf i).toNat)
   case atStart=>exact⟨0,0,dG _,rfl,rfl⟩
   case round =>
    obtain⟨k,n,h,rfl,rfl⟩:=hrel
    by_cases hlt:k<s.size
    ·have g:=zcd s k hlt
     by_cases c0:(s[k].toNat:Int)<48
     ·go_wp2_with fail
      go_ret2;exact⟨0,false,rfl,rfl⟩
     ·by_cases c1:57<(s[k].toNat:Int)
      ·go_wp2_with fail
       go_ret2;exact⟨0,false,rfl,rfl⟩
      ·go_wp2_with fail
       go_round
       case rel=>exact⟨k+1,_,oM,gM,rfl⟩
       case measure=>simp [intOf];omega
    ·obtain rfl:k=s.size:=oM;go_wp2_with fail
     go_ret2;exact⟨_,true,rfl,rfl⟩
  ·by_cases z4:1<s.size
   ·have b:(1:Int)<(s.size:Int):=oM
    go_enter Tryz.func258,Tryz.ntmps258
    go_wp2;go_ret2;exact⟨0,false,rfl,rfl⟩
   ·have b:(s.size:Int)<=1:=oM
    go_enter Tryz.func258,Tryz.ntmps258
    go_wp2_with fail
    go_loop [5,6] (fun v i=>∃ (k:Nat) (n:Int),k<=s.size∧i=.int .i64 k∧v=.int .i64 n) (fun _ i=>s.size - (intOf i).toNat)
    case atStart=>exact⟨0,0,dG _,rfl,rfl⟩
    case round =>
     obtain⟨k,n,h,rfl,rfl⟩:=hrel
     by_cases hlt:k<s.size
     ·have g:=zcd s k hlt
      by_cases c0:(s[k].toNat:Int)<48
      ·go_wp2_with fail
       go_ret2;exact⟨0,false,rfl,rfl⟩
      ·by_cases c1:57<(s[k].toNat:Int)
       ·go_wp2_with fail
        go_ret2;exact⟨0,false,rfl,rfl⟩
       ·go_wp2_with fail
        go_round
        case rel=>exact⟨k+1,_,oM,gM,rfl⟩
        case measure=>simp [intOf];omega
     ·obtain rfl:k=s.size:=oM;go_wp2_with fail
      go_ret2;exact⟨_,true,rfl,rfl⟩
 ·obtain⟨y,o⟩:∃ y,s.extract 1 s.size=y:=⟨_,rfl⟩;have d:y.size=s.size - 1:=by rw [← o,ByteArray.size_extract];omega
  have p:y.size<=1000000:=oM;have j:=za d;clear d;have l:(1:Int)<=(s.size:Int):=oM
  by_cases z0:y.size=0
  ·go_enter Tryz.func258,Tryz.ntmps258
   go_wp2;go_ret2;exact⟨0,false,rfl,rfl⟩
  have q:0<y.size:=oM;have f:((y.size:Int)==0)=false:=by rw [beq_eq_false_iff_ne];omega
  by_cases z2:17<y.size
  ·have a:(17:Int)<(y.size:Int):=oM
   go_enter Tryz.func258,Tryz.ntmps258
   go_wp2;go_ret2;exact⟨0,false,rfl,rfl⟩
  have a:(y.size:Int)<=17:=oM;cases z3:((y[0].toNat:Int)==48)
  ·go_enter Tryz.func258,Tryz.ntmps258
   go_wp2_with fail
   go_loop [5,6] (fun v i=>∃ (k:Nat) (n:Int),k<=y.size∧i=.int .i64 k∧v=.int .i64 n) (fun _ i=>y.size - (intOf i).toNat)
   case atStart=>exact⟨0,0,dG _,rfl,rfl⟩
   case round =>
    obtain⟨k,n,h,rfl,rfl⟩:=hrel
    by_cases hlt:k<y.size
    ·have g:=zcd y k hlt
     by_cases c0:(y[k].toNat:Int)<48
     ·go_wp2_with fail
      go_ret2;exact⟨0,false,rfl,rfl⟩
     ·by_cases c1:57<(y[k].toNat:Int)
      ·go_wp2_with fail
       go_ret2;exact⟨0,false,rfl,rfl⟩
      ·go_wp2_with fail
       go_round
       case rel=>exact⟨k+1,_,oM,gM,rfl⟩
       case measure=>simp [intOf];omega
    ·obtain rfl:k=y.size:=oM;go_wp2_with fail
     go_ret2;exact⟨_,true,rfl,rfl⟩
  ·by_cases z4:1<y.size
   ·have b:(1:Int)<(y.size:Int):=oM
    go_enter Tryz.func258,Tryz.ntmps258
    go_wp2;go_ret2;exact⟨0,false,rfl,rfl⟩
   ·have b:(y.size:Int)<=1:=oM
    go_enter Tryz.func258,Tryz.ntmps258
    go_wp2;go_ret2;exact⟨0,false,rfl,rfl⟩
theorem zn:(Tryz.prog.info? 9).map (fun i=>(i.zero,i.size,i.bytes))=some (some (.string ⟨#[]⟩),1,16):=kM
def RetStrs (L N:Nat) (w:World) (e:Ending) (w':World):Prop:=∃ (A:Option Addr) (n c:Nat) (l:List ByteArray),e=.returned (.slice A n c)∧n=l.length∧w'.ownsRow w.heap.size 9 1 (.slice A n c) n (zM l)∧(∀ x∈l,x.size<=L)∧n<=N∧Ext w w'
theorem zbR (x:ByteArray):∀ u∈(#[Value.string x]:Array Value).toList,u.oneCell'=true:=by simp [Value.oneCell']
theorem spec_l19Cut {s:ByteArray} (hs:s.size<=1000000) :
  Calls Tryz.prog 250 #[s,.int .u8 32] w (RetStrs s.size (s.size+1) w):=by
 go_enter Tryz.func250,Tryz.ntmps250
 go_wp2_with fail
 go_loopw [5,6,7] (fun v f i wr=>∃ (k m:Nat) (l:List ByteArray),k<=s.size+1∧i=.int .i64 k∧m<=k∧f=.int .i64 m∧l.length<=k∧wr.ownsRow w.heap.size 9 1 v l.length (zM l)∧Hid (∀ x∈l,x.size<=s.size)∧Ext w wr) (fun _ _ i _=>s.size+1 - (intOf i).toNat)
 case atStart=>exact⟨0,0,[],dG _,rfl,dD _,rfl,dD _,World.ownsRow_lit w #[] 0 (dD _) lM rfl,(fun x hx=>by cases hx),(cY _).alloc _⟩
 case round =>
  obtain⟨k,m,l,t,rfl,y,rfl,u,a,g,b⟩:=hrel
  by_cases hle:k<=s.size
  ·have o:(k:Int)<=(s.size:Int):=oM;have p:(m:Int)<=(k:Int):=oM;have j:=za (show (s.extract m k).size<=s.size by rw [ByteArray.size_extract];omega);have d:=za (show ∀ x∈l++[s.extract m k],x.size<=s.size from fun x hx=>by
    rcases List.mem_append.1 hx with h1|h1
    ·exact g.out x h1
    ·rw [List.mem_singleton.1 h1];exact j.out)
   by_cases he:k=s.size
   ·have h:((k:Int)==(s.size:Int))=true:=by simp [he]
    have q:=za he;clear he;go_wp2_with (at_builtin;refine zQ w wr rfl _ _ _ rfl 9 _ 1 16 Tryz.underlying88 zn rfl dM u5 _ _ _ _ rfl rfl b a rfl (zbR _) lM oM ?_;intro v' w1 hext1 zhM hg1 hat1)
    go_roundw
    case rel=>exact⟨k+1,k+1,l++[s.extract m k],oM,gM,oM,gM,by simp;omega,by simpa [zM] using zhM,d.out,aM⟩
    case measure=>simp [intOf];omega
   ·have h:((k:Int)==(s.size:Int))=false:=by rw [beq_eq_false_iff_ne];omega
    have n:k<s.size:=oM;have r:=zcd s k n;cases hc:((s[k].toNat:Int)==32)
    ·go_wp2_with fail
     go_roundw
     case rel=>exact⟨k+1,m,l,oM,gM,oM,rfl,oM,a,g,b⟩
     case measure=>simp [intOf];omega
    ·go_wp2_with (at_builtin;refine zQ w wr rfl _ _ _ rfl 9 _ 1 16 Tryz.underlying88 zn rfl dM u5 _ _ _ _ rfl rfl b a rfl (zbR _) lM oM ?_;intro v' w1 hext1 zhM hg1 hat1)
     go_roundw
     case rel=>exact⟨k+1,k+1,l++[s.extract m k],oM,gM,oM,gM,by simp;omega,by simpa [zM] using zhM,d.out,aM⟩
     case measure=>simp [intOf];omega
  ·obtain rfl:k=s.size+1:=oM;obtain⟨A,c,rfl⟩:=zi a;go_wp2_with fail
   go_ret;exact⟨A,_,c,l,rfl,rfl,a,g.out,oM,b⟩
def RetEdgeS (w:World) (e:Ending) (w':World):Prop:=∃ (x:Edg) (ok:Bool),e=.returned (.tuple #[.agg #[x.fr,x.le,x.ta],.bool ok])∧Ext w w'
theorem spec_l2Parse {s:ByteArray} (hs:s.size<=1000000) :
  Calls Tryz.prog 259 #[s] w (RetEdgeS w):=by
 go_enter Tryz.func259,Tryz.ntmps259
 go_wp2_with fail
 generalize U0:w.alloc _=w1 at *;have b:=Ext.al_ U0;have a:=Ext.bl_ U0;clear U0
 go_loop [4] (fun i=>∃ k:Nat,k<=s.size∧i=.int .i64 k) (fun i=>s.size - (intOf i).toNat)
 case atStart=>exact⟨0,dG _,rfl⟩
 case round =>
  obtain⟨k,t,rfl⟩:=hrel;have h:=a.cell;have q:=a.frozen
  by_cases hlt:k<s.size
  ·have r:=zcd s k hlt
   by_cases c0:(97:Int)<=(s[k].toNat:Int)
   ·by_cases c1:(s[k].toNat:Int)<=102
    ·have j:=za (show (s.extract 0 k).size<=1000000 by rw [ByteArray.size_extract];omega);have l:=za (show (s.extract (k+1) s.size).size<=1000000 by rw [ByteArray.size_extract];omega);have o:(k:Int)+1<=(s.size:Int):=oM;go_wp2_with fail
     refine (zdf j.out).mono ?_;rintro e n ⟨f,m,rfl,rfl⟩;go_wp2_with fail
     refine (zdf l.out).mono ?_;rintro e n ⟨g,c,rfl,rfl⟩;go_wp2_with fail
     refine (zbf s k hlt _).mono ?_;rintro e n ⟨rfl,rfl⟩;have d:∀ u0 u1 u2,Ext w (((w1.setCell w.heap.size u0).setCell ⟨w.heap.size,1,none⟩ u1).setCell ⟨w.heap.size,2,none⟩ u2):=fun u0 u1 u2=>((b.setCell (dD _) u0).setCell (dD _) u1).setCell (dD _) u2;have Hfin:=za d;clear d;cases m
     ·go_wp2_with fail
      exact bodyPost_ret (v:=.tuple #[.agg #[f,.int .i64 ((s[k].toNat:Int) - 97),g],.bool false]) (by simp [results,Tryz.results259,go_sem,h]) rfl ⟨⟨f,(s[k].toNat:Int) - 97,g⟩,false,rfl,Hfin.out _ _ _⟩
     ·go_wp2_with fail
      exact bodyPost_ret (v:=.tuple #[.agg #[f,.int .i64 ((s[k].toNat:Int) - 97),g],.bool c]) (by simp [results,Tryz.results259,go_sem,h]) rfl ⟨⟨f,(s[k].toNat:Int) - 97,g⟩,c,rfl,Hfin.out _ _ _⟩
    ·go_wp2_with fail
     go_round
     case rel=>exact⟨k+1,oM,gM⟩
     case measure=>simp [intOf];omega
   ·go_wp2_with fail
    go_round
    case rel=>exact⟨k+1,oM,gM⟩
    case measure=>simp [intOf];omega
  ·obtain rfl:k=s.size:=oM;go_wp2_with fail
   refine bodyPost_ret (v:=.tuple #[.agg #[(0:Int),(0:Int),(0:Int)],.bool false]) (by simp [results,Tryz.results259,go_sem,h]) rfl ⟨⟨0,0,0⟩,false,rfl,?_⟩;exact ((b.setCell (p:=⟨w.heap.size,0,none⟩) (dD _) _).setCell (p:=⟨w.heap.size,1,none⟩) (dD _) _).setCell (p:=⟨w.heap.size,2,none⟩) (dD _) _
def RetFmt (s:Sys) (w:World) (e:Ending) (w':World):Prop:=∃ t:ByteArray,e=.returned (.string t)∧(zj s=false->t.size=0)∧Ext w w'
theorem valid_al (h:zj s=true):∃ a:Nat,s.al=a∧a<64:=by
 simp only [zj,dF,decide_eq_true_eq] at h;exact⟨s.al.toNat,oM,oM⟩
theorem zeU (h:zR w lo hi A n s)(hn:n<=1000000) :
  Calls Tryz.prog 260 #[.agg #[s.al,s.st,.slice A n c]] w (RetFmt s w):=by
 have Q:=za (fun W (hW:Ext w W)=>h.ext hW);clear h;cases h1:zj s
 ·have L:=za h1;clear h1
  go_enter Tryz.func260,Tryz.ntmps260
  go_wp2_with (go_at_call 185;refine (zag (Q.out _ ((cY _).alloc _))).mono ?_;rw [L.out];rintro e w1 ⟨rfl,M⟩)
  go_ret;exact⟨_,rfl,fun _=>rfl,((cY _).alloc _).trans M⟩
 ·obtain⟨p,hp,av,aw,hf⟩:=zcR h1;obtain⟨a,ha,R⟩:=valid_al h1;have L:=za h1;have Hf:=za hf;have Hp:=za hp;have Ha:=za ha;clear h1 hf hp ha
  go_enter Tryz.func260,Tryz.ntmps260
  go_wp2_with fail
  refine (zag (Q.out _ ((cY _).alloc _))).mono ?_;rw [L.out];rintro e w1 ⟨rfl,M⟩;have b1:=zbA M;rw [Ha.out,Hp.out] at b1;have G:=((cY w).alloc _).trans M;have cb:=b1.cells;go_wp2_with fail
  refine tR (fun X=>Ext w1 X) [] (Ord.of [0,1,4,5,2,3,6,7,8]) ?_;refine tQ ?_;refine zC fun K hK=>?_;go_simp;refine (zbp R).mono ?_;rintro e w2 ⟨j,rfl,C,m⟩;have f:=((cY w1).drew).trans m;have Z:¬ 9223372036854775807<j.size+1:=oM;refine hK.out _ _ f ?_;refine pT ?_;refine tQ ?_;refine zC fun K hK=>?_;go_simp;refine (zde (n:=p) oM).mono ?_;rintro e w3 ⟨y,rfl,D,q⟩;have g:=f.trans q;have q2:¬ 9223372036854775807<j.size+1+y.size:=oM;refine hK.out _ _ g ?_;refine pT ?_;refine tQ ?_;refine zai ?_;obtain⟨O,z⟩:∃ O:ByteArray,O=j++{ data:=#[32] }++y:=⟨_,rfl⟩;have B:O.size<=20:=by rw [z,ByteArray.size_append,ByteArray.size_append];show j.size+1+y.size<=20;omega
  rw [← z];clear z Z q2 C D m q f;have d:=g;go_wp2_with fail
  go_loopw [3,4] (fun v i wr=>∃ (k:Nat) (t:ByteArray),k<=n∧i=.int .i64 k∧v=.string t∧t.size<=20+20*k∧Ext w1 wr) (fun _ i _=>n - (intOf i).toNat)
  case atStart=>exact⟨0,O,dG _,rfl,rfl,B,d⟩
  case round =>
   clear d g B;obtain⟨k,t,hk,rfl,rfl,ht,r⟩:=hrel;have ap:=cb wr r
   by_cases hlt:k<n
   ·obtain⟨b,o,x,rfl,_,_,U,c0,c1,c2⟩:=(Q.out wr (G.trans r)).2.edge hlt;obtain⟨⟨f0,f1⟩,⟨g0,g1⟩,⟨t0,t1⟩⟩:=Hf.out x (dB U.out);obtain⟨u,E⟩:∃ u:Nat,x.fr=u:=⟨x.fr.toNat,oM⟩;obtain⟨v,F⟩:∃ v:Nat,x.ta=v:=⟨x.ta.toNat,oM⟩;rw [E] at c0 f0 f1;rw [F] at c2 t0 t1;clear E F;go_wp2_with fail
    generalize U0:wr.alloc _=wq at *;have Y:=Ext.al_ U0;have S:=Ext.bl_ U0;clear U0;have cq:=S.cells;have q0:¬ 9223372036854775807<t.size+1:=oM;refine tR (fun X=>Ext wq X) [] (Ord.of [0,1,2,3,6,7,10,11,4,5,8,9,12,13,14]) ?_;refine tQ ?_;refine zC fun K hK=>?_;go_simp;refine (zde (n:=u) oM).mono ?_;rintro e w2 ⟨j,rfl,C,m⟩;have H:=((cY wq).drew).trans m;have Z:¬ 9223372036854775807<t.size+1+j.size:=oM;refine hK.out _ _ H ?_;refine pT ?_;refine tQ ?_;refine zC fun K hK=>?_;go_simp;refine (zgh (l:=x.le) g0 g1).mono ?_;rintro e w3 ⟨y,rfl,D,q⟩;have I:=H.trans q;have q2:¬ 9223372036854775807<t.size+1+j.size+y.size:=oM;refine hK.out _ _ I ?_;refine pT ?_;refine tQ ?_;refine zC fun K hK=>?_;go_simp;refine (zde (n:=v) oM).mono ?_;rintro e w5 ⟨t5,rfl,ax,V⟩;have J:=I.trans V;have q3:¬ 9223372036854775807<t.size+1+j.size+y.size+t5.size:=oM;refine hK.out _ _ J ?_;refine pT ?_;refine tQ ?_;refine zai ?_;have T:(t++{ data:=#[32] }++j++y++t5).size<=20+20*(k+1):=by
     simp only [ByteArray.size_append];show t.size+1+j.size+y.size+t5.size<=_;omega
    clear q0 Z q2 q3;go_wp2_with fail
    go_roundw
    case rel=>exact⟨k+1,_,oM,gM,rfl,T,(r.trans Y).trans J⟩
    case measure=>simp [intOf];omega
   ·obtain rfl:n=k:=oM;go_wp2_with fail
    go_ret;have hv:=L.out;exact⟨t,rfl,fun h=>absurd (hv.symm.trans h) dM,G.trans r⟩
def Good (s:Sys):Prop:=∃ a p:Nat,s.al=a∧a<64∧s.st=p∧1<=p∧p<=16∧Few p s.edges
def zbO (w:World) (R:Nat) (A:Option Addr) (n:Nat) (s:Sys):Prop:=
 n=s.edges.length∧n<=9223372036854775807∧(0<n->∃ (g o:Nat) (cs:Array Value),A=some ⟨g,o,none⟩∧R<g∧w.heap[g]?=some (.cells cs 117 (0,0))∧∀ j u,(zq s.edges)[j]?=some u->w.cell? ⟨g,o+j,none⟩=some u)
theorem zbO.at_ (h:zbO w R A n s):zR w (R+1) w.heap.size A n s:=by
 refine⟨h.1,by rw [zaw,← h.1],h.2.1,fun h0=>?_⟩;obtain⟨g,o,d,e,a,c,b⟩:=h.2.2 h0;exact⟨⟨g,o,none⟩,e,a,(Array.getElem?_eq_some_iff.1 c).1,fun j u hu=>by rw [zP];exact b j u hu⟩
theorem zbO.frm (h:zbO w R A n s)(hb:Frm S w w')(hS:∀ k,S k->R<k->∀ cs,w.heap[k]?≠some (.cells cs 117 (0,0))):zbO w' R A n s:=by
 refine⟨h.1,h.2.1,fun h0=>?_⟩;obtain⟨g,o,cs,e,c,b,f⟩:=h.2.2 h0;have a:=(Array.getElem?_eq_some_iff.1 b).1;have d:¬ S g:=fun hs=>hS g hs c cs b;exact⟨g,o,cs,e,c,(hb.block g a d).trans b,fun j u hu=>(World.cell?_of_block (w:=w) (hb.block g a d)).trans (f j u hu)⟩
theorem zbO.ext (h:zbO w R A n s)(hb:Ext w w'):zbO w' R A n s:=h.frm (S:=fun _=>False) hb (fun _ hk=>hk.elim)
theorem zbO.dr (h:zbO w R A n s)(hb:Dr R w w'):zbO w' R A n s:=h.frm hb (fun k hk hR=>oM)
theorem zbO.far {t:TypeId}(h:zbO w R A n s)(hB:Blk w Z t cs)(ht:t≠117)(hb:Frm (fun k=>k=Z) w w'):zbO w' R A n s:=h.frm hb (fun k hk _ cs' hh=>by
 subst hk
 unfold Blk at hB
 rw [hB] at hh
 injection hh with hh
 injection hh with _ h2
 exact ht h2)
theorem zbO.own (h:w.ownsRow base 117 3 (.slice A n c) n (zq s.edges))(hR:R<base):zbO w R A n s:=by
 have i:n=s.edges.length:=by have:=h.1;rw [zaw] at this;omega
 refine⟨i,(dY h).len,fun h0=>?_⟩;rcases h.2 with ⟨_,h1⟩|⟨g,b,a,k,l,f,_⟩
 ·omega
 ·have d:A=some ⟨g,0,none⟩:=by injection k
  subst d;exact⟨g,0,a,rfl,oM,f,fun j u hu=>by
   have:=h.cells (g:=g) rfl j u hu;rwa [zP] at this⟩
theorem zhh (h:w.ownsRow base e size (.slice A n c) n xs):n<=c:=by
 rcases h.2 with ⟨a,i⟩|⟨g,b,d,a,_,_,f,_⟩
 ·omega
 ·injection a with _ _ h3
  omega
def RetG (R M L:Nat) (w:World) (e:Ending) (w':World):Prop:=
 ∃ (s:Sys) (A:Option Addr) (n c:Nat),e=.returned (.agg #[s.al,s.st,.slice A n c])∧zbO w' R A n s∧Good s∧(n<=L∧n<=c)∧Rd w' R M∧Dr R w w'
def RetA (R M L:Nat) (w:World) (e:Ending) (w':World):Prop:=
 ∃ (s:Sys) (A:Option Addr) (n c:Nat),e=.returned (.agg #[s.al,s.st,.slice A n c])∧zbO w' R A n s∧(n<=L∧n<=c)∧Rd w' R M∧Dr R w w'
structure Acc (w0 wB W:World) (R G M:Nat) (al st:Int) (v:Value) (es:List Edg):Prop where
 blk:Blk W G 38 #[al,st,v]
 own:W.ownsRow wB.heap.size 117 3 v es.length (zq es)
 rd:Rd W R M
 dr:Dr R w0 W
 fr:Frm (fun k=>k=R∨k=G) wB W
 hR:R<w0.heap.size
 hB:w0.heap.size<=wB.heap.size
 hG:w0.heap.size<=G
section
variable {w0 wB W W':World} {R G M N:Nat} {al st:Int} {v:Value} {es:List Edg}
theorem Acc.more (h:Acc w0 wB W R G M al st v es)(hM:M<=N):Acc w0 wB W R G N al st v es:={ h with rd:=h.rd.more hM }
theorem Acc.ext (h:Acc w0 wB W R G M al st v es)(hb:Ext W W'):Acc w0 wB W' R G M al st v es:=⟨h.blk.ext hb,zg h.own hb,h.rd.ext hb,h.dr.ext hb,h.fr.ext hb,h.hR,h.hB,h.hG⟩
theorem Acc.drawn (h:Acc w0 wB W R G M al st v es)(hb:Dr R W W')(hr:Rd W' R N):Acc w0 wB W' R G N al st v es:=
 ⟨h.blk.dr hb (by have:=h.hR;have:=h.hG;omega),zf h.own hb (fun b hv hS=>by have:=(h.own.lt b hv).1;have:=h.hR;have:=h.hB;omega),hr,h.dr.trans hb,h.fr.trans (hb.mono fun k _ hk=>Or.inl hk),h.hR,h.hB,h.hG⟩
theorem Acc.far (h:Acc w0 wB W R G M al st v es) (hv:v.ownBlock=some b):b≠G:=by
 rintro rfl;have a:=h.blk;rcases h.own.2 with ⟨rfl,_⟩|⟨g,c,d,rfl,_,i,_⟩
 ·simp [Value.ownBlock] at hv
 ·have f:g=b:=by simpa [Value.ownBlock] using hv
  subst f;unfold Blk at a;rw [i] at a;injection a with a
  injection a with _ ht
  exact absurd ht dM
theorem Acc.setAl (h:Acc w0 wB W R G M al st v es) (x:Int):Acc w0 wB (W.setCell G x) R G M x st v es:=
 ⟨by simpa using h.blk.ab 0 _,zf h.own (dE W G 0 _) (fun b hv hS=>h.far hv hS),h.rd.frm (dE W G 0 _) (fun k hk hS=>by have:=h.hR;have:=h.hG;omega),h.dr.ag h.hG _,h.fr.cell (Or.inr rfl) _,h.hR,h.hB,h.hG⟩
theorem Acc.setSt (h:Acc w0 wB W R G M al st v es) (x:Int):Acc w0 wB (W.setCell ⟨G,1,none⟩ x) R G M al x v es:=
 ⟨by simpa using h.blk.ab 1 _,zf h.own (dE W G 1 _) (fun b hv hS=>h.far hv hS),h.rd.frm (dE W G 1 _) (fun k hk hS=>by have:=h.hR;have:=h.hG;omega),h.dr.ag h.hG _,h.fr.cell (Or.inr rfl) _,h.hR,h.hB,h.hG⟩
theorem Acc.push {g cap:Nat} {e:Edg}(h:Acc w0 wB W R G M al st v es) (zhD:W'.ownsRow wB.heap.size 117 3 (.slice (some g) (es.length+1) cap) (es.length+1) (zq es++[.int .i64 e.fr,.int .i64 e.le,.int .i64 e.ta]))
  (hg:W.grownBy W' v.ownBlock) (hat:v.ownBlock=some g∨g=W.heap.size+1) :
  Hid (W'.cell? ⟨G,2,none⟩=some v)∧W'.frozen? ⟨G,2,none⟩=false∧Acc w0 wB (W'.setCell ⟨G,2,none⟩ (.slice (some g) (es.length+1) cap)) R G M al st (.slice (some g) (es.length+1) cap) (es++[e]):=by
 have a:Blk W' G 38 #[.int .i64 al,.int .i64 st,v]:=(hg.block G h.blk.lt (fun e=>h.far e.symm rfl)).trans h.blk;have f:g≠G:=by
  rcases hat with h1|h1
  ·exact h.far h1
  ·have:=h.blk.lt;omega
 have c:Dr R w0 W':=h.dr.grown hg (fun k hk=>dK h.hB (h.own.lt k hk).1);have i:Rd W' R M:=h.rd.frm (Frm.ae hg) (fun k hk hS=>by have:=(h.own.lt k hS).1;have:=h.hR;have:=h.hB;omega);have d:Frm (fun k=>k=R∨k=G) wB W':=
  ⟨hg.os.trans h.fr.os,hg.tape.trans h.fr.tape,hg.output.trans h.fr.output,dK h.fr.size hg.size,
   fun k hk hn=>(hg.block k (Nat.lt_of_lt_of_le hk h.fr.size) (fun e=>by have:=(h.own.lt k e.symm).1;omega)).trans (h.fr.block k hk hn)⟩
 refine⟨a.cell 2,a.frozen 2,⟨by simpa using a.ab 2 _,?_,i.frm (dE W' G 2 _) (fun k hk hS=>by have:=h.hR;have:=h.hG;omega),c.ag h.hG _,d.cell (Or.inr rfl) _,h.hR,h.hB,h.hG⟩⟩;have:=zf zhD (dE W' G 2 (.slice (some g) (es.length+1) cap)) (fun b hv hS=>by
  have:g=b:=by simpa [Value.ownBlock] using hv
  omega)
 rw [zbS];simpa [zq] using this
theorem Acc.reads (h:Acc w0 wB W R G M al st (.slice A n c) es):n=es.length∧zR W wB.heap.size W.heap.size A n ⟨al,st,es⟩:=by
 have a:n=es.length:=by
  rcases h.own.2 with ⟨b,j⟩|⟨g,f,i,b,_⟩
  ·injection b with _ h2 _;omega
  ·injection b
 have d:=h.own;rw [← a] at d;exact⟨a,a,dY d⟩
theorem Acc.form (h:Acc w0 wB W R G M al st v es):∃ A n c,v=.slice A n c:=by
 obtain⟨A,c,e⟩:=zi h.own;exact⟨A,_,c,e⟩
theorem Acc.old (h:Acc w0 wB W R G M al st v es)   (hx:Reads wB lo hi size A n xs)(h1:∀ k,lo<=k->k<hi->k≠R∧k≠G):Reads W lo hi size A n xs:=
 hx.frm h.fr (fun k a b hS=>by have:=h1 k a b;omega)
end
theorem zbZ (W:World) (Z:Nat) (u0 u1 u2:Value):Frm (fun k=>k=Z) W (((W.setCell Z u0).setCell ⟨Z,1,none⟩ u1).setCell ⟨Z,2,none⟩ u2):=
 ((dE W Z 0 u0).trans (dE _ Z 1 u1)).trans (dE _ Z 2 u2)
theorem Acc.fin (h:Acc w0 wB W R G M al st (.slice A n c) es)(hZ:w0.heap.size<=Z)(hZ2:Z<wB.heap.size) (u0 u1 u2:Value) :
  zbO (((W.setCell Z u0).setCell ⟨Z,1,none⟩ u1).setCell ⟨Z,2,none⟩ u2) R A n ⟨al,st,es⟩ ∧
  Rd (((W.setCell Z u0).setCell ⟨Z,1,none⟩ u1).setCell ⟨Z,2,none⟩ u2) R M∧Dr R w0 (((W.setCell Z u0).setCell ⟨Z,1,none⟩ u1).setCell ⟨Z,2,none⟩ u2):=by
 have a:=zbZ W Z u0 u1 u2;obtain⟨f,_⟩:=h.reads;have i:=h.hR;have g:=h.hB;have d:=h.own;rw [← f] at d;refine⟨zbO.own (s:=⟨al,st,es⟩) (zf d a (fun b hv hS=>by have:=(h.own.lt b hv).1;omega)) oM,h.rd.frm a (fun k h1 h2=>oM),?_⟩;exact ((h.dr.ag (p:=⟨Z,0,none⟩) hZ u0).ag (p:=⟨Z,1,none⟩) hZ u1).ag (p:=⟨Z,2,none⟩) hZ u2
theorem zfz {p:Nat}  {e:Edg}(h:Few p es)(he:(0<=e.fr∧e.fr<p)∧(0<=e.le∧e.le<6)∧(0<=e.ta∧e.ta<p)):Few p (es++[e]):=fun x hx=>by
 rcases List.mem_append.1 hx with h1|h1
 ·exact h x h1
 ·rw [List.mem_singleton.1 h1];exact he
theorem few_nil (p:Nat):Few p []:=fun x hx=>by cases hx
theorem zhr {a p:Nat} {few:Int} (h:Rd w R M)(hM:M<=900000000)(ha:a<64)(hp1:1<=p)(hp:p<=16) :
  Calls Tryz.prog 207 #[.pointer (some R),a,p,few] w (RetG R (M+20000) 20000 w):=by
 have S:Sm a:=tM;have I:=h.lt
 go_enter Tryz.func207,Tryz.ntmps207
 go_wp2_with fail
 refine (zT a S _).mono ?_;rintro e w1 ⟨B,d,rfl,E,u⟩;obtain⟨U,T⟩:=zS u;have r:=(((cY w).alloc _).alloc _).trans u;have ao:=zB a 6;have D:=za (fun k (hk:k∈letters a 6)=>(zcZ.1 hk).1);have s:=(dY E).more (lo':=w.heap.size+2) (hi':=w1.heap.size) sM (dD _);have b:Acc w w1 w1 R (w.heap.size+1) M a p (.slice none 0 0) []:=⟨T,World.ownsRow_nil _ _ _ _,h.ext r,r.dr,iL _ _,I,r.size,oM⟩;have t:Blk w1 w.heap.size 38 #[.int .i64 0,.int .i64 0,.slice none 0 0]:=U;clear E T u U;generalize letters a 6=z at *;have aq:=r.size;go_wp2_with fail
 go_loopw [11] (fun i wr=>∃ k:Nat,k<=p∧i=.int .i64 k∧∃ (v:Value) (m:List Edg),Acc w w1 wr R (w.heap.size+1) (M+k*1000) a p v m∧m.length<=k*1000∧Hid (Few p m)) (fun i _=>p - (intOf i).toNat)
 case atStart=>exact⟨0,dG _,rfl,_,[],b.more (iR _ _),dG _,few_nil p⟩
 case round =>
  clear b;obtain⟨k,hk,rfl,v,m,b,q,f⟩:=hrel
  by_cases hlt:k<p
  ·go_wp2_with fail
   go_loopw [12] (fun i wr=>∃ j:Nat,j<=z.length∧i=.int .i64 j∧∃ (v:Value) (m:List Edg),Acc w w1 wr R (w.heap.size+1) (M+k*1000+j*100) a p v m∧m.length<=k*1000+j*100∧Hid (Few p m)) (fun i _=>z.length - (intOf i).toNat)
   case atStart=>exact⟨0,dG _,rfl,v,m,b.more (iR _ _),dK q (iR _ _),f⟩
   case round =>
    clear b q f;obtain⟨j,hj,rfl,v,m,b,q,f⟩:=hrel
    by_cases hlj:j<z.length
    ·go_wp2_with fail
     go_loopw [13] (fun i wr=>∃ x:Nat,x<=p∧i=.int .i64 x∧∃ (v:Value) (m:List Edg),Acc w w1 wr R (w.heap.size+1) (M+k*1000+j*100+x) a p v m∧m.length<=k*1000+j*100+x∧Hid (Few p m)) (fun i _=>p - (intOf i).toNat)
     case atStart=>exact⟨0,dG _,rfl,v,m,b.more (iR _ _),dK q (iR _ _),f⟩
     case round =>
      clear b q f;obtain⟨x,hx,rfl,v,m,b,q,f⟩:=hrel
      by_cases hlx:x<p
      ·go_wp2_with fail
       refine (zw b.rd oM).mono ?_;rintro e F ⟨y,rfl,_,_,Q,L⟩;have o:=b.drawn L Q;obtain⟨ad,l,rfl,_,J,hl,O⟩:=(o.old s oM).nat hlj;have af:=D.out l (dB hl.out)
       by_cases hy:y=0
       ·subst hy;have cG:=fun W (hW:Ext F W)=>(o.blk.ext hW).cell;have cL:∀ W,Ext F W->W.cell? (ad.add j)=some (.int .i64 (l:Nat)):=fun W hW=>hW.aa O;have al:(0:Int)<=(j:Int):=oM;have am:(j:Int)<(z.length:Int):=oM;go_wp2_with fail
        refine tR (fun X=>Ext F X) [10,12] (Ord.of [0,1,2,3,4,5,6,7,8,9,10,11,12]) ?_;refine tQ ?_;refine zC fun K hK=>?_;go_simp;refine hK.out _ _ ((cY _).drew.alloc _) ?_;refine pT ?_;refine zO fun K hK=>?_;refine zaI w1 F.drew _ _ _ rfl 117 _ 3 24 Tryz.underlying36 zaT rfl dM v m.length (zq m) _ _ rfl rfl o.fr.size o.own rfl (by simp [Value.oneCell']) lM oM ?_;intro g cap w3 zhO hg3 hat3 hlt3;refine hK.out _ _ ?_;refine pT ?_;refine tQ ?_;obtain⟨h1,h2,h3⟩:=(o.ext ((cY _).drew)).push (e:=⟨k,l,x⟩) (W':=w3) zhO hg3 hat3;have aj:=h1.out;refine zO fun K hK=>?_;go_simp;refine hK.out _ _ ?_;refine zai ?_;go_wp2_with fail
        go_roundw
        case rel=>exact⟨x+1,oM,gM,_,_,h3.more oM,by simp;omega,zfz f.out (by simp;omega)⟩
        case measure=>simp [intOf];omega
       ·have ap:((y:Int)==0)=false:=by simp;omega
        go_wp2_with fail
        go_roundw
        case rel=>exact⟨x+1,oM,gM,v,m,o.more oM,oM,f⟩
        case measure=>simp [intOf];omega
      ·obtain rfl:p=x:=oM;have G:m.length<=k*1000+(j+1)*100:=oM;have H:M+k*1000+j*100+p<=M+k*1000+(j+1)*100:=oM;go_wp2_with fail
       go_roundw
       case rel=>exact⟨j+1,oM,gM,v,m,b.more H,G,f⟩
       case measure=>simp [intOf];omega
    ·obtain rfl:j=z.length:=oM;have G:m.length<=(k+1)*1000:=oM;have H:M+k*1000+z.length*100<=M+(k+1)*1000:=oM;go_wp2_with fail
     go_roundw
     case rel=>exact⟨k+1,oM,gM,v,m,b.more H,G,f⟩
     case measure=>simp [intOf];omega
  ·obtain rfl:p=k:=oM;obtain⟨A,n,c,rfl⟩:=b.form;obtain⟨rfl,_⟩:=b.reads;have ab:=zhh b.own;have cG:=b.blk.cell;have C:=t.frm b.fr oM;have cz:=C.cell;have ar:=t.lt;have fz:=C.frozen;obtain⟨V,Y,f3⟩:=b.fin (Z:=w.heap.size) (dD _) oM (.int .i64 a) (.int .i64 p) (.slice A m.length c);have Hfin:=za (show RetG R (M+20000) 20000 w (.returned (.agg #[a,p,.slice A m.length c])) _ from ⟨⟨a,p,m⟩,A,m.length,c,rfl,V,⟨a,p,rfl,ha,rfl,hp1,hp,f.out⟩,oM,Y.more oM,f3⟩);clear t s D V Y f3;go_wp2_with fail
   exact bodyPost_ret (v:=.agg #[a,p,.slice A m.length c]) (by simp [results,Tryz.results207,go_sem,cz]) rfl Hfin.out
theorem zdA {P:Program} (wb w:World) {ops:Array Oper} {rest:List Oper} {o:Oper} {a:Act} {Q:Exit->Act->World->Prop}(hgd:o.guard=none) (s x:Operand) (t:TypeId)
  (ho:o.op=.call { callee:=.builtin .append,args:=#[s,x],argTypes:=#[t,t] })
  (e:TypeId) (z:Value) (size bytes:Nat) (ht:P.underlying t=some (.slice e)) (hi:(P.info? e).map (fun i=>(i.zero,i.size,i.bytes))=some (some z,size,bytes)) (hzs:z.cells.size=size) (hsz:0<size)
  (v:Value) (n:Nat) (xs:List Value) (us:Array Value) (e':TypeId) (hs:a.eval s=v) (hx:a.eval x=.slice (some w.heap.size) 1 1)
  (zhF:wb.heap.size<=w.heap.size) (zhD:w.ownsRow wb.heap.size e size v n xs) (hus:us.size=size) (h1:∀ u∈us.toList,u.oneCell'=true)
  (h63:n+1<=maxLen) (hbytes:(n+1)*bytes<=140737488355328)
  (h:∀ g cap w',w'.ownsRow wb.heap.size e size (.slice (some ⟨g,0,none⟩) (n+1) cap) (n+1) (xs++us.toList)->w.grownBy w' v.ownBlock->(v.ownBlock=some g∨g=w.heap.size+1)->g<w'.heap.size->wpList P ops Q rest (a.put o.dst (.slice (some ⟨g,0,none⟩) (n+1) cap)) w') :
  wpList P ops Q (o :: rest) a (w.alloc (.cells us e')):=
 wpList_plain hgd fun _ hK=>zaI wb w s x t ho e z size bytes ht hi hzs hsz v n xs us e' hs hx zhF zhD hus h1 h63 hbytes fun g cap w' h2 h3 h4 h5=>hK _ _ (h g cap w' h2 h3 h4 h5)
theorem Reads.str (h:Reads w lo hi 1 A n (zM l))(hk:k<n):∃ ad x,A=some ad∧lo<=ad.block∧ad.block<hi∧Hid (l[k]?=some x)∧w.cell? (ad.add k)=some (.string x):=by
 obtain⟨ad,u,e,h1,h2,b,a⟩:=h.one hk;have:=b.out;simp only [zM,List.getElem?_map,Option.map_eq_some_iff] at this;obtain⟨x,c,rfl⟩:=this;exact⟨ad,x,e,h1,h2,c,a⟩
theorem valid_good (h:zj s=true):Good s:=by
 obtain⟨p,i,c,d,g⟩:=zcR h;obtain⟨a,f,b⟩:=valid_al h;exact⟨a,p,f,b,i,c,d,g⟩
theorem Acc.fillRD {v:Value} (h:Acc w0 wB W R G M al st v es)(hZ:w0.heap.size<=Z) (u0 u1 u2:Value) :
  Rd (((W.setCell Z u0).setCell ⟨Z,1,none⟩ u1).setCell ⟨Z,2,none⟩ u2) R M∧Dr R w0 (((W.setCell Z u0).setCell ⟨Z,1,none⟩ u1).setCell ⟨Z,2,none⟩ u2):=
 ⟨h.rd.frm (zbZ W Z u0 u1 u2) (fun k h1 h2=>oH h.hR),((h.dr.ag (p:=⟨Z,0,none⟩) hZ u0).ag (p:=⟨Z,1,none⟩) hZ u1).ag (p:=⟨Z,2,none⟩) hZ u2⟩
theorem str_empty {t:ByteArray}(h:t.toList=x.toList)(h0:t.size=0):x.size=0:=by
 have h1:=congrArg List.length h;rw [ByteArray.toList_eq,ByteArray.toList_eq] at h1;have a:t.data.toList.length=t.size:=rfl;have b:x.data.toList.length=x.size:=rfl;omega
def Fair (s:Sys):Prop:=∃ a p:Nat,s.al=a∧a<64∧s.st=p∧p<=16∧Few (p+1) s.edges
theorem Good.fair (h:Good s):Fair s:=by
 obtain⟨a,p,h1,h2,b,_,c,d⟩:=h;exact⟨a,p,h1,h2,b,c,fun e he=>by have:=d e he;omega⟩
theorem fair_zero:Fair ⟨0,0,[]⟩:=⟨0,0,rfl,oM,rfl,oM,fun e he=>by cases he⟩
def zgS (R M L:Nat) (w:World) (e:Ending) (w':World):Prop:=
 ∃ (s:Sys) (A:Option Addr) (n c:Nat) (ok:Bool),e=.returned (.tuple #[.agg #[s.al,s.st,.slice A n c],.bool ok])∧zbO w' R A n s∧((ok=true->Good s)∧Fair s)∧(n<=L∧n<=c)∧Rd w' R M∧Dr R w w'
theorem zfG (h:Rd w' R M)(hd:Dr R w w'):zgS R M L w (.returned (.tuple #[.agg #[(0:Int),(0:Int),()],.bool false])) w':=
 ⟨⟨0,0,[]⟩,none,0,0,false,rfl,⟨rfl,oM,fun h0=>oM⟩,⟨(fun h=>by cases h),fair_zero⟩,⟨dG _,dD _⟩,h,hd⟩
theorem yF08a1 {P:Prop}(h:P:=by
 obtain⟨g1,g2⟩:=hacc4.fillRD (Z:=w.heap.size) (Nat.le_refl _) (.int .i64 0) (.int .i64 0) (.slice none 0 0);exact bodyPost_ret (v:=.tuple #[.agg #[(0:Int),(0:Int),()],.bool false]) (by simp [results,Tryz.results181,go_sem,hz4]) rfl (zfG g1 g2)
 ):P:=h
theorem yF08a2 {P:Prop}(h:P:=by
 go_wp2_with fail
 exact bodyPost_ret (v:=.tuple #[.agg #[(0:Int),(0:Int),()],.bool false]) (by simp [results,Tryz.results181,go_sem,cz2]) rfl Hnone.out
 ):P:=h
theorem zfq (h:Rd w R M)(hx:x.size<=1000) :
  Calls Tryz.prog 181 #[x] w (zgS R M 1001 w):=by
 have ap:=h.lt
 go_enter Tryz.func181,Tryz.ntmps181
 go_wp2_with fail
 refine (spec_l19Cut (s:=x) oM).mono ?_;rintro e w1 ⟨B,m,d,l,rfl,af,aj,ae,hm,C⟩;have E:=zbA C;have a3:=E.lt;have G:=((cY w).alloc _).trans C;have V:=(dY aj).more (lo':=w.heap.size+1) (hi':=w1.heap.size) sM (dD _);have aa:=za ae;have aL:=za af;clear aj ae af C;have cz:=E.cell;have fz:=E.frozen;have z:=za (fun (W:World) (hW:Ext w1 W) (u0 u1 u2:Value)=>(⟨(h.ext (G.trans hW)).frm (zbZ W w.heap.size u0 u1 u2) (fun k hk hS=>oM),(((G.trans hW).dr.ag (R:=R) (p:=⟨w.heap.size,0,none⟩) (dD _) u0).ag (p:=⟨w.heap.size,1,none⟩) (dD _) u1).ag (p:=⟨w.heap.size,2,none⟩) (dD _) u2⟩:Rd (((W.setCell w.heap.size u0).setCell ⟨w.heap.size,1,none⟩ u1).setCell ⟨w.heap.size,2,none⟩ u2) R M∧Dr R w (((W.setCell w.heap.size u0).setCell ⟨w.heap.size,1,none⟩ u1).setCell ⟨w.heap.size,2,none⟩ u2)))
 by_cases hm2:m<2
 ·go_wp2_with fail
  obtain⟨g1,g2⟩:=z.out w1 (cY _) (.int .i64 0) (.int .i64 0) (.slice none 0 0);exact bodyPost_ret (v:=.tuple #[.agg #[(0:Int),(0:Int),()],.bool false]) (by simp [results,Tryz.results181,go_sem,cz]) rfl (zfG g1 g2)
 ·obtain⟨ad,x0,rfl,aZ,aW,a0,T⟩:=V.str (k:=0) oM;obtain⟨b,o,rfl⟩:∃ b o,ad=⟨b,o,none⟩:=⟨_,_,zcD T⟩;rw [zP,Nat.add_zero] at T;obtain⟨aN,x1,S,_,_,C,U⟩:=V.str (k:=1) oM;obtain rfl:=Option.some.inj S;rw [zP] at U;have aG:(2:Int)<=(m:Int):=oM;have aq:=za (aa.out x1 (dB C.out));go_wp2_with fail
  refine (zcw (x:=x0)).mono ?_;rintro e O ⟨a,az,rfl,ha,u⟩;have ab:=u.aa U;have Q:=E.ext u;have cz2:=Q.cell;have an:=Q.frozen;go_wp2_with fail
  refine (zdf (s:=x1) (oH aq.out)).mono ?_;rintro e a5 ⟨y,aA,rfl,rfl⟩;obtain⟨g1,g2⟩:=z.out O u (.int .i64 0) (.int .i64 0) (.slice none 0 0);have Hnone:=za (zfG (L:=1001) g1 g2);clear g1 g2;cases az
  ·exact yF08a2
  ·cases aA
   ·exact yF08a2
   ·have bG:=dU O 38 #[a,y,()];have Y:=(cY O).alloc (.cells #[a,y,()] 38);have a2:O.heap.size<(O.alloc (.cells #[a,y,()] 38)).heap.size:=sM;have aI:=u.size;have aH:=G.size;have aw:=G.trans u;clear T U ab cz fz cz2 an;go_wp2_with fail
    generalize O.alloc _=w3 at *;have X:=aw.trans Y;have ag:=(V.ext u).ext Y;have am:=Q.ext Y;have f:Acc w w3 w3 R O.heap.size M a y (.slice none 0 0) []:=⟨bG,World.ownsRow_nil _ _ _ _,h.ext X,X.dr,iL _ _,ap,X.size,oM⟩
    go_loopw [10] (fun i wr=>∃ (k:Nat) (v:Value) (t:List Edg),2<=k∧k<=m∧i=.int .i64 k∧Acc w w3 wr R O.heap.size M a y v t∧t.length<=k) (fun i _=>m - (intOf i).toNat)
    case atStart=>exact⟨2,_,[],dD _,oM,rfl,f,dG _⟩
    case round =>
     clear f;obtain⟨k,v,t,aY,hk,rfl,f,aV⟩:=hrel;have hG:=f.blk.cell;have F:=am.frm f.fr oM;have H:=F.cell;have I:=F.frozen;have ah:=f.old ag oM
     by_cases hlt:k<m
     ·obtain⟨ad,xk,S,_,_,ax,au⟩:=ah.str hlt;obtain rfl:=Option.some.inj S;rw [zP] at au;have ar:=za (aa.out xk (dB ax.out));clear H I;go_wp2_with fail
      refine (spec_l2Parse (s:=xk) (oH ar.out)).mono ?_;rintro e w4 ⟨r,aB,rfl,D⟩;have hacc4:=f.ext (D.alloc (.cells #[r.fr,r.le,r.ta] 117));have aP:=dU w4 117 #[r.fr,r.le,r.ta];have j:=F.ext (D.alloc (.cells #[r.fr,r.le,r.ta] 117));clear hG;cases aB
      ·have hz4:=j.cell;have ay:=j.frozen;go_wp2_with fail
       generalize w4.alloc _=wq at *;exact yF08a1
      ·have ao:=hacc4.blk.cell;go_wp2_with (at_builtin;refine zdA w3 (w4.alloc (.cells #[r.fr,r.le,r.ta] 117)) rfl _ _ _ rfl 117 _ 3 24 Tryz.underlying36 zaT rfl dM v t.length (zq t) _ _ rfl (by first|rfl|simp [go_sem]) hacc4.fr.size hacc4.own rfl (by simp [Value.oneCell']) lM oM ?_;intro g cap w5 zhP hg5 hat5 hlt5;obtain⟨h1,h2,h3⟩:=hacc4.push (e:=r) (W':=w5) zhP hg5 hat5;have aS:=h1.out)
       go_roundw
       case rel=>exact⟨k+1,_,_,oM,oM,gM,h3,by simp;omega⟩
       case measure=>simp [intOf];omega
     ·obtain rfl:m=k:=oM;obtain⟨A,n,c,rfl⟩:=f.form;obtain⟨rfl,ai⟩:=f.reads;clear H I;go_wp2_with fail
      refine (zeU (s:=⟨a,y,t⟩) ai oM).mono ?_;rintro e w4 ⟨tx,rfl,av,D⟩;have hacc4:=f.ext D;have j:=F.ext D;have hz4:=j.cell;have ay:=j.frozen;have ao:=hacc4.blk.cell;cases hne:tx.toList==x.toList
      ·go_wp2_with fail
       exact yF08a1
      ·have J:zj (⟨a,y,t⟩:Sys)=true:=by
        cases hv:zj (⟨a,y,t⟩:Sys)
        ·exfalso;have h0:=av hv;have a1:x.size=0:=str_empty (by simpa using hne) h0;omega
        ·rfl
       have q:=valid_good J;have aF:=zhh hacc4.own;obtain⟨g1,g2,g3⟩:=hacc4.fin (Z:=w.heap.size) (dD _) oM (.int .i64 a) (.int .i64 y) (.slice A t.length c);have Hfin:=za (show zgS R M 1001 w (.returned (.tuple #[.agg #[a,y,.slice A t.length c],.bool true])) _ from ⟨⟨a,y,t⟩,A,t.length,c,true,rfl,g1,⟨fun _=>q,q.fair⟩,oM,g2,g3⟩);clear g1 g2 g3 q J;go_wp2_with fail
       exact bodyPost_ret (v:=.tuple #[.agg #[a,y,.slice A t.length c],.bool true]) (by simp [results,Tryz.results181,go_sem,hz4]) rfl Hfin.out
structure Tch (w:World) (A:Option Addr) (n:Nat) (B:Option Addr) (m:Nat) (B':Option Addr) (m':Nat) (s:Sys) (p:Aut) (L:Nat):Prop where
 at_:∃ lo hi,zR w lo hi A n s∧zE w lo hi B m B' m' p∧hi<=w.heap.size
 sv:zj s=true
 pv:zh p=true
 lt:L<64
section
variable {w W:World} {n c m d m' d' L:Nat} {A B B':Option Addr} {s:Sys} {p:Aut}
theorem Tch.ext (h:Tch w A n B m B' m' s p L)(hx:Ext w W):Tch W A n B m B' m' s p L:=by
 obtain⟨c,b,h1,h2,a⟩:=h.at_;exact⟨⟨c,b,h1.ext hx,h2.ext hx,dK a hx.size⟩,h.sv,h.pv,h.lt⟩
theorem zaE (h:Tch w A n B m B' m' s p L) :
  Calls Tryz.prog 133 #[.agg #[.bool false,(0:Int),(),(),s.al,s.st,.slice A n c,p.al,.slice B m d,.slice B' m' d',L]] w fun e w'=>e=.returned (.int .i64 (L:Nat))∧Ext w w':=by
 obtain⟨o,l,h1,h2,k⟩:=h.at_;have f:=za (fun W (hW:Ext w W)=>zdT (c:=c) (d:=d) (d':=d') (L:=L) (h1.ext hW) (h2.ext hW) h.sv h.pv h.lt);clear h h1 h2
 go_enter Tryz.func133,Tryz.ntmps133
 go_upto_region 1 with fail
 generalize U0:w.alloc _=w1 at *;obtain⟨a,g⟩:=gK U0;clear U0;have j:=g.cells;have i:=cY w1;go_wp2_with (first
  |(go_at_call 145;refine (f.out _ a).mono (mQ fun q b=>?_)))
 go_ret;exact⟨rfl,a.trans b⟩
theorem zdv {t:ByteArray}(h:Tch w A n B m B' m' s p L)(ht:t.size<=9223372036854775807) :
  Calls Tryz.prog 214 #[.agg #[.bool false,(0:Int),(),(),s.al,s.st,.slice A n c,p.al,.slice B m d,.slice B' m' d',L],t] w fun e w'=>e=.returned (.bool (zr s p L t))∧Ext w w':=by
 obtain⟨o,l,h1,h2,i⟩:=h.at_;have f:=za (fun W (hW:Ext w W)=>zdd (c:=c) (d:=d) (d':=d') (L:=L) (t:=t) (h1.ext hW) (h2.ext hW) h.sv h.pv h.lt (dK i hW.size) ht);clear h h1 h2
 go_enter Tryz.func214,Tryz.ntmps214
 go_upto_region 1 with fail
 generalize U0:w.alloc _=w1 at *;obtain⟨a,g⟩:=gK U0;clear U0;have k:=g.cells;have j:=cY w1;go_wp2_with (first
  |(go_at_call 62;refine (f.out _ a).mono (mQ fun q b=>?_)))
 go_ret;exact⟨rfl,a.trans b⟩
end
theorem str_loop (b:ByteArray):∀ (k:Nat) (i:Nat) (r:List UInt8),b.size - i=k->ByteArray.toList.loop b i r=r.reverse++b.data.toList.drop i:=by
 intro k
 induction k with
 |zero =>
  intro i r h;unfold ByteArray.toList.loop;rw [if_neg oM,List.drop_of_length_le (by rw [Array.length_toList];show b.size<=i;omega),gW]
 |succ k ih =>
  intro i r h;have a:i<b.size:=oM;unfold ByteArray.toList.loop;rw [if_pos a,ih (i+1) _ oM,List.drop_eq_getElem_cons (i:=i) (by rw [Array.length_toList];exact a),List.reverse_cons,iK];have e:b.get! i=b.data.toList[i]'(by rw [Array.length_toList];exact a):=by
   rw [Array.getElem_toList];show b.data[i]! = _;exact getElem!_pos b.data i a
  rw [e];rfl
theorem str_data (b:ByteArray):b.toList=b.data.toList:=by
 unfold ByteArray.toList;rw [str_loop b _ 0 [] rfl];rfl
theorem str_ext {y:ByteArray}(h:x.toList=y.toList):x=y:=by
 rw [str_data,str_data] at h;cases x;cases y
 congr 1
 exact Array.toList_inj.1 h
theorem str_ne {y:ByteArray}(h:¬ x=y):(x.toList==y.toList)=false:=by
 rw [beq_eq_false_iff_ne];exact fun e=>h (str_ext e)
noncomputable def zfW (l:List ByteArray) (x:ByteArray):Bool:=by classical exact decide (x∈l)
theorem zdG :zfW l x=true↔x∈l:=by unfold zfW;simp
theorem zcb :zfW l x=false↔x∉l:=by rw [← Bool.not_eq_true,zdG]
theorem zcM (h:Reads w lo hi 1 A n (zM l)) :
  Calls Tryz.prog 228 #[.slice A n c,x] w fun e w'=>e=.returned (.bool (zfW l x))∧w=w':=by
 have s:=h.len;have g:l.length=n:=by have:=h.length;rw [zbs] at this;omega
 have p:=za g;clear g
 go_enter Tryz.func228,Tryz.ntmps228
 go_wp2_with fail
 go_loop [5] (fun iv=>∃ i:Nat,iv=.int .i64 i∧i<=n∧Hid (∀ j,j<i->l[j]?≠some x)) (fun iv=>n - (intOf iv).toNat)
 case atStart=>exact⟨0,rfl,dG _,za (fun j h=>oM)⟩
 case round =>
  obtain⟨i,rfl,hi,a⟩:=hrel
  by_cases hlt:i<n
  ·have k:(i:Int)<(n:Int):=oM;obtain⟨q,y,rfl,_,_,m,r⟩:=h.str hlt
   by_cases he:y=x
   ·subst he;have d:=za (zdG.2 (dB m.out));go_wp2_with fail
    go_ret;exact⟨zl (by rw [d.out]),rfl⟩
   ·have o:=za he;have f:=str_ne he;clear he;go_wp2_with fail
    go_round
    case rel=>exact⟨i+1,gM,oM,za (fun j b=>by
     rcases eV (gH b) with h1|rfl
     ·exact a.out j h1
     ·rw [m.out];intro h;exact o.out (Option.some.inj h))⟩
    case measure=>simp [intOf];omega
  ·obtain rfl:i=n:=oM;have d:=za (show zfW l x=false by
    rw [zcb];intro hx;obtain⟨j,b⟩:=dX hx;exact a.out j (by have:=(List.getElem?_eq_some_iff.1 b).1;have:=p.out;omega) b)
   go_wp2_with fail
   go_ret;exact⟨zl (by rw [d.out]),rfl⟩
def zcl (f:ByteArray->Bool) (cols:List ByteArray) (x:ByteArray):List Bool:=cols.map fun c=>f (x++c)
def mkB (b:Bool):ByteArray:=if b then ⟨#[43]⟩ else ⟨#[45]⟩
def mkS (bs:List Bool):ByteArray:=bs.foldl (fun o b=>o++mkB b) ByteArray.empty
theorem mkS_snoc (bs:List Bool) (b:Bool):mkS (bs++[b])=mkS bs++mkB b:=by simp [mkS]
theorem zfB:∀ (bs:List Bool),(mkS bs).data.toList=bs.map fun b=>if b then 43 else 45:=by
 have a:∀ (bs:List Bool) (o:ByteArray),(bs.foldl (fun o b=>o++mkB b) o).data.toList=o.data.toList++bs.map fun b=>if b then 43 else 45:=by
  intro bs
  induction bs with
  |nil=>intro o;simp
  |cons b r ih =>
   intro o;rw [iD,ih,ByteArray.data_append,Array.toList_append,iK,List.map_cons];cases b<;>rfl
 intro bs;unfold mkS;rw [a];rfl
theorem map_inj' {α β:Type} {f:α->β}(hf:∀ x y,f x=f y->x=y):∀ {a b:List α},a.map f=b.map f->a=b
 |[],[],_=>rfl
 |[],_ :: _,h=>by simp at h
 |_ :: _,[],h=>by simp at h
 |x :: a,y :: b,h=>by
  simp only [List.map_cons,List.cons.injEq] at h
  rw [hf x y h.1,map_inj' hf h.2]
theorem mkS_inj {a b:List Bool}(h:mkS a=mkS b):a=b:=by
 have h1:(mkS a).data.toList=(mkS b).data.toList:=by rw [h]
 rw [zfB,zfB] at h1;exact map_inj' (fun x y=>by cases x<;>cases y<;>simp) h1
theorem mkS_size (bs:List Bool):(mkS bs).size=bs.length:=by
 have h:=congrArg List.length (zfB bs);rw [dW,Array.length_toList] at h;exact h
section
variable {w W:World} {n c m d m' d' L:Nat} {A B B':Option Addr} {s:Sys} {p:Aut}
theorem zek (h:Tch w A n B m B' m' s p L)(hC:Reads w lo hi 1 C nc (zM cols))(hc:nc<=1000)(hx:x.size<=1000000)(hcs:∀ y∈cols,y.size<=1000000) :
  Calls Tryz.prog 137 #[.agg #[.bool false,(0:Int),(),(),s.al,s.st,.slice A n c,p.al,.slice B m d,.slice B' m' d',L],.slice C nc cc,x] w fun e w'=>e=.returned (.string (mkS (zcl (zr s p L) cols x)))∧Ext w w':=by
 have D:cols.length=nc:=by have:=hC.length;rw [zbs] at this;omega
 have M:=za (fun W (hW:Ext w W) (y:ByteArray) l=>zdv (c:=c) (d:=d) (d':=d') (t:=y) (h.ext hW) l);have J:=za (fun W (hW:Ext w W)=>hC.ext hW);have O:=za D;have q:=za hcs;clear h hC D hcs
 go_enter Tryz.func137,Tryz.ntmps137
 go_upto_region 1 with fail
 generalize U0:w.alloc _=w1 at *;obtain⟨f,R⟩:=gK U0;clear U0;have H:=R.cells;go_wp2_with fail
 go_loopw [7,8] (fun v iv wr=>∃ (k:Nat) (o:ByteArray),iv=.int .i64 k∧k<=nc∧v=.string o∧o.size<=k∧Hid (o=mkS (zcl (zr s p L) (cols.take k) x))∧Ext w1 wr) (fun _ iv _=>nc - (intOf iv).toNat)
 case atStart=>exact⟨0,_,rfl,dG _,rfl,dM,za rfl,cY _⟩
 case round =>
  obtain⟨k,o,rfl,hk,rfl,S,F,a⟩:=hrel
  by_cases hlt:k<nc
  ·have E:(k:Int)<(nc:Int):=oM;obtain⟨Q,y,rfl,_,_,l,z⟩:=(J.out wr (f.trans a)).str hlt;have X:=q.out y (dB l.out);have Z:∀ W,Ext wr W->W.cell? (Q.add k)=some (.string y):=fun W hW=>hW.aa z;have I:=fun W (hW:Ext wr W)=>H W (a.trans hW);have T:¬ 9223372036854775807<x.size+y.size:=oM;have G:¬ 9223372036854775807<o.size+1:=oM;have b:(x++y).size<=9223372036854775807:=by rw [ByteArray.size_append];omega
   have g:=za (fun W (hW:Ext wr W)=>M.out W ((f.trans a).trans hW) (x++y) b);have U:=cY wr;have i:=za (show mkS (zcl (zr s p L) (cols.take (k+1)) x)=o++mkB (zr s p L (x++y)) by
    rw [dJ,l.out,zcl,eU,← zcl,F.out,eG,List.map_singleton,mkS_snoc])
   obtain⟨bv,r⟩:∃ bv,Hid (zr s p L (x++y)=bv):=⟨_,rfl⟩;rw [r.out] at g i;clear z b;go_wp2_with fail
   go_region_held3 (fun W=>Ext wr W) (first|assumption|(refine eZ ?_;assumption)|(refine eE ?_ aM;assumption)|(refine eE ?_ aM;refine eZ ?_;assumption)) (first
    |(go_at_call 214;refine (g.out _ ?_).mono ?_;(first|assumption|(refine eZ ?_;assumption));rintro e Y ⟨rfl,V⟩))
   have j:Ext w1 Y:=a.trans aM;cases bv
   all_goals
    go_wp2_with fail
    go_roundw
    case rel=>exact⟨k+1,_,gM,oM,rfl,by rw [ByteArray.size_append];show o.size+1<=k+1;omega,i.symm,j⟩
    case measure=>simp [intOf];omega
  ·obtain rfl:k=nc:=oM;have u:=za (show mkS (zcl (zr s p L) cols x)=o by rw [F.out,dI (oH O.out)]);go_wp2_with fail
   go_ret;exact⟨by rw [u.out];rfl,f.trans a⟩
end
theorem zcW (es:List Edg):∀ u∈zq es,u.oneCell'=true:=by
 induction es with
 |nil=>intro u h;cases h
 |cons e r ih =>
  intro u h;simp only [zq,List.mem_cons] at h;rcases h with rfl|rfl|rfl|h
  ·rfl
  ·rfl
  ·rfl
  ·exact ih u h
theorem zcX {e:Edg}(h:es[k]?=some e) (x:Int) :
  (zq es).set (k*3) (.int .i64 x)=zq (es.set k ⟨x,e.le,e.ta⟩)∧(zq es).set (k*3+1) (.int .i64 x)=zq (es.set k ⟨e.fr,x,e.ta⟩)∧(zq es).set (k*3+2) (.int .i64 x)=zq (es.set k ⟨e.fr,e.le,x⟩):=by
 induction es generalizing k with
 |nil=>simp at h
 |cons a r ih =>
  cases k with
  |zero=>simp at h;subst h;exact⟨rfl,rfl,rfl⟩
  |succ k =>
   have:=ih (k:=k) (by simpa using h);have b:(k+1)*3=k*3+1+1+1:=oM;refine⟨?_,?_,?_⟩<;>rw [b]<;>simp only [zq,List.set_cons_succ]
   ·rw [this.1]
   ·rw [this.2.1]
   ·rw [this.2.2]
section
variable {w0 wB W:World} {R G M:Nat} {al st:Int} {es:List Edg}
theorem Acc.turn {g m j:Nat} {x:Int} {fs:List Edg}(h:Acc w0 wB W R G M al st (.slice (some g) m c) es)(hm:m=es.length)(hs:(zq es).set j (.int .i64 x)=zq fs)(hl:fs.length=es.length) :
  Acc w0 wB (W.setCell ⟨g,j,none⟩ x) R G M al st (.slice (some g) m c) fs:=by
 have d:g≠G:=h.far rfl;have l:=(h.own.lt g rfl).1;have i:=h.hR;have f:=h.hB;have a:=dE W g j (.int .i64 x);refine⟨h.blk.frm a oM,?_,h.rd.frm a (fun k h1 h2=>oM),h.dr.ag (by dsimp only;omega) _,?_,h.hR,h.hB,h.hG⟩
 ·have b:=h.own;rw [← hm] at b;have:=(b.stored j (.int .i64 x)).1;rw [hs] at this;rw [hl,← hm];exact this
 ·exact⟨h.fr.os,h.fr.tape,h.fr.output,by simpa [World.setCell] using h.fr.size,fun k hk hn=>(Below.heap_setCell _ _ _ _ (by dsimp only;omega)).trans (h.fr.block k hk hn)⟩
end
def RetStrL (w:World) (l:List ByteArray) (e:Ending) (w':World):Prop:=
 ∃ A c,e=.returned (.slice A l.length c)∧w'.ownsRow w.heap.size 9 1 (.slice A l.length c) l.length (zM l)∧Ext w w'
def zbo (f:ByteArray->Bool) (cols words:List ByteArray):List ByteArray:=words.map fun x=>mkS (zcl f cols x)
theorem strs_snoc (l:List ByteArray) (x:ByteArray):zM (l++[x])=zM l++[.string x]:=by simp [zM]
section
variable {w W:World} {n c m d m' d' L:Nat} {A B B':Option Addr} {s:Sys} {p:Aut}
theorem zdx {R:Option Addr} {nr cr lo2 hi2:Nat} (h:Tch w A n B m B' m' s p L)(hC:Reads w lo hi 1 C nc (zM cols))(hR:Reads w lo2 hi2 1 R nr (zM rows))(hc:nc<=1000)(hr:nr<=1000)(hcs:∀ y∈cols,y.size<=1000000)(hrs:∀ y∈rows,y.size<=1000000) :
  Calls Tryz.prog 135 #[.agg #[.bool false,(0:Int),(),(),s.al,s.st,.slice A n c,p.al,.slice B m d,.slice B' m' d',L],.slice C nc cc,.slice R nr cr] w (RetStrL w (zbo (zr s p L) cols rows)):=by
 have H:rows.length=nr:=by have:=hR.length;rw [zbs] at this;omega
 have T:=za (fun W (hW:Ext w W) (y:ByteArray) l=>zek (c:=c) (d:=d) (d':=d') (cc:=cc) (x:=y) (h.ext hW) (hC.ext hW) hc l hcs);have S:=za (fun W (hW:Ext w W)=>hR.ext hW);have E:=za H;have q:=za hrs;clear h hC hR H hrs hcs
 go_enter Tryz.func135,Tryz.ntmps135
 go_upto_region 1 with fail
 generalize U0:w.alloc _=w1 at *;obtain⟨g,V⟩:=gK U0;clear U0;have O:=V.cells;go_wp2_with fail
 go_loopw [7,8] (fun v iv wr=>∃ k:Nat,iv=.int .i64 k∧k<=nr∧wr.ownsRow w1.heap.size 9 1 v k (zM (zbo (zr s p L) cols (rows.take k)))∧Ext w1 wr) (fun _ iv _=>nr - (intOf iv).toNat)
 case atStart=>exact⟨0,rfl,dG _,World.ownsRow_lit w1 #[] 0 (dD _) lM rfl,(cY _).alloc _⟩
 case round =>
  obtain⟨k,rfl,G,f,b⟩:=hrel
  by_cases hlt:k<nr
  ·have I:(k:Int)<(nr:Int):=oM;obtain⟨U,y,rfl,_,_,l,F⟩:=(S.out wr (g.trans b)).str hlt;have u:=q.out y (dB l.out);have Z:∀ W,Ext wr W->W.cell? (U.add k)=some (.string y):=fun W hW=>hW.aa F;have Q:=fun W (hW:Ext wr W)=>O W (b.trans hW);have o:=za (fun W (hW:Ext wr W)=>T.out W ((g.trans b).trans hW) y u);have j:=cY wr;have r:=za (show zM (zbo (zr s p L) cols (rows.take (k+1)))=zM (zbo (zr s p L) cols (rows.take k))++[.string (mkS (zcl (zr s p L) cols y))] by
    rw [dJ,l.out,zbo,eU,← zbo,eG,List.map_singleton,strs_snoc])
   generalize mkS (zcl (zr s p L) cols y)=z at *;clear F;go_wp2_with fail
   refine uR (fun X=>Ext wr X) [9] (zv.of [0,1,2,3,4,5,6,7,8,9,10]) ?_;refine uQ ?_;refine zd fun K hK=>?_;go_simp;refine (o.out _ j.drew).mono (mQ fun J t=>?_);have a:Ext wr J:=j.drew.trans t;refine hK.out _ _ a ?_;refine pT ?_;refine uQ ?_;refine zd fun K hK=>?_;go_simp;refine hK.out _ _ (a.alloc _) ?_;refine pT ?_;refine zb fun K hK=>?_;refine zaI w1 J _ _ _ rfl 9 _ 1 16 Tryz.underlying88 zn rfl dM _ k (zM (zbo (zr s p L) cols (rows.take k))) _ _ rfl rfl (b.trans a).size (zg f a) rfl (zbR _) lM oM ?_;intro g8 cap8 w8 hown8 hg8 hat8 hlt8;refine hK.out _ _ ?_;refine pT ?_;refine uQ ?_;refine ze ?_;go_wp2_with fail
   go_roundw
   case rel=>exact⟨k+1,gM,oM,by rw [r.out];exact hown8,(b.trans a).grown hg8 (fun k G=>(f.lt k G).1)⟩
   case measure=>simp [intOf];omega
  ·obtain rfl:k=nr:=oM;obtain⟨M,Y,rfl⟩:=zi f;have D:=za (show (rows.take k)=rows from dI (oH E.out));rw [D.out] at f;have i:=za (show (zbo (zr s p L) cols rows).length=k by rw [zbo,dW];exact E.out);go_wp2_with fail
   go_ret;exact⟨M,Y,by rw [i.out];rfl,by rw [i.out];exact zo f g.size,g.trans b⟩
theorem zfg (h:Tch w A n B m B' m' s p L)(hx:x.size<=9223372036854775807) :
  Calls Tryz.prog 226 #[.agg #[.bool false,(0:Int),(),(),s.al,s.st,.slice A n c,p.al,.slice B m d,.slice B' m' d',L],x] w fun e w'=>e=.returned (.bool (inB x L&&decide (x.size<=4000)))∧Ext w w':=by
 have g:=za (fun W (hW:Ext w W)=>zaE (c:=c) (d:=d) (d':=d') (h.ext hW));have l:=h.lt;have a:Ext w (w.alloc (.cells #[.bool false,(0:Int),(),(),s.al,s.st,.slice A n c,p.al,.slice B m d,.slice B' m' d',L] 87)):=(cY _).alloc _;have i:=dU w 87 #[.bool false,(0:Int),(),(),s.al,s.st,.slice A n c,p.al,.slice B m d,.slice B' m' d',L];clear h;cases hin:inB x L
 all_goals
  have b:=za hin;clear hin
  go_enter Tryz.func226,Tryz.ntmps226
  go_upto_region 1 with fail
  generalize w.alloc _=w1 at *;have k:=i.cells;have j:=cY w1;go_wp2_with (first
   |(go_at_call 133;refine (g.out _ a).mono (mQ fun o f=>?_))
   |(go_at_call 146;refine (zaH hx oM).mono ?_;rw [b.out];rintro e q ⟨rfl,rfl⟩))
  go_ret;exact⟨zl (by first|rfl|(rw [Bool.true_and,decide_eq_decide];omega)),a.trans f⟩
end
def zcY (l:Nat):ByteArray:=strOfNums [((97+l:Nat):Int)]
theorem zdq (l:Nat):(zcY l).size=1:=strOfNums_size _
structure zcT (L:Nat) (f:ByteArray->Bool) (rows cols:List ByteArray):Prop where
 r1:1<=rows.length
 r12:rows.length<=12
 c1:1<=cols.length
 c20:cols.length<=20
 r0:rows[0]?=some ⟨#[]⟩
 c0:cols[0]?=some ⟨#[]⟩
 rw_:∀ (i:Nat) (x:ByteArray),1<=i->rows[i]?=some x->inB x L=true∧∃ y l,l<6∧x=y++zcY l∧y∈rows.take i
 cw:∀ (i:Nat) (x:ByteArray),1<=i->cols[i]?=some x->inB x L=true∧x.size<=4000∧x∉cols.take i
 nd:(rows.map (zcl f cols)).Nodup
section
variable {L:Nat} {f:ByteArray->Bool} {rows cols:List ByteArray}
theorem inB_empty (L:Nat):inB ⟨#[]⟩ L=true:=by unfold inB overB;rfl
theorem zcT.rsz (h:zcT L f rows cols):∀ (i:Nat) (x:ByteArray),rows[i]?=some x->x.size<=i:=by
 intro i
 induction i using Nat.strongRecOn with
 |ind i ih =>
  intro x hx;rcases iX i with rfl|c
  ·rw [h.r0] at hx;obtain rfl:=Option.some.inj hx;exact dD _
  ·obtain⟨-,y,l,g,rfl,d⟩:=h.rw_ i x c hx;obtain⟨j,b⟩:=dX d;have a:j<i:=by have:=(List.getElem?_eq_some_iff.1 b).1;rw [eK] at this;omega
   rw [iU a] at b;have:=ih j a y b;rw [ByteArray.size_append,zdq l];omega
theorem zcT.rin (h:zcT L f rows cols) (hx:x∈rows):inB x L=true∧x.size<=12:=by
 obtain⟨i,a⟩:=dX hx;have c:=(List.getElem?_eq_some_iff.1 a).1;refine⟨?_,by have:=h.rsz i x a;have:=h.r12;omega⟩;rcases iX i with rfl|b
 ·rw [h.r0] at a;obtain rfl:=Option.some.inj a;exact inB_empty L
 ·exact (h.rw_ i x b a).1
theorem zcT.cin (h:zcT L f rows cols) (hx:x∈cols):inB x L=true∧x.size<=4000:=by
 obtain⟨i,a⟩:=dX hx;rcases iX i with rfl|b
 ·rw [h.c0] at a;obtain rfl:=Option.some.inj a;exact⟨inB_empty L,dM⟩
 ·exact⟨(h.cw i x b a).1,(h.cw i x b a).2.1⟩
theorem rowsM_nodup (h:zcT L f rows cols):(zbo f cols rows).Nodup:=by
 have h1:=h.nd;unfold zbo;have h2:rows.map (fun x=>mkS (zcl f cols x))=(rows.map (zcl f cols)).map mkS:=by rw [List.map_map];rfl
 rw [h2];exact List.pairwise_map.2 (h1.imp fun hne e=>hne (mkS_inj e))
end
def TabAt (w:World) (R:Option Addr) (nr:Nat) (C:Option Addr) (nc:Nat) (rows cols:List ByteArray):Prop:=
 ∃ lo hi lo2 hi2,Reads w lo hi 1 R nr (zM rows)∧Reads w lo2 hi2 1 C nc (zM cols)
theorem TabAt.ext {R:Option Addr} {nr:Nat} (h:TabAt w R nr C nc rows cols)(hx:Ext w W):TabAt W R nr C nc rows cols:=by
 obtain⟨d,c,b,a,h1,h2⟩:=h;exact⟨d,c,b,a,h1.ext hx,h2.ext hx⟩
theorem TabAt.nr {R:Option Addr} {nr:Nat} (h:TabAt w R nr C nc rows cols):rows.length=nr∧cols.length=nc:=by
 obtain⟨g,f,d,c,h1,h2⟩:=h;have a:=h1.length;have b:=h2.length;rw [zbs] at a b;omega
theorem Reads.takeS (h:Reads w lo hi 1 A n (zM l))(hk:k<=n):Reads w lo hi 1 A k (zM (l.take k)):=by
 have d:=h.length;rw [zbs] at d;refine⟨by rw [zbs,eK];omega,oH h.len,fun h0=>?_⟩;obtain⟨a,e,h1,h2,b⟩:=h.2.2 oM;refine⟨a,e,h1,h2,fun j u hu=>b j u ?_⟩;unfold zM at hu ⊢;rw [List.map_take] at hu;have c:j<k:=by have:=(List.getElem?_eq_some_iff.1 hu).1;rw [eK] at this;omega
 rwa [iU c] at hu
theorem str_front (y:ByteArray) (l:Nat):(y++zcY l).extract 0 y.size=y:=by
 rw [ByteArray.extract_append_eq_left rfl]
section
variable {w W:World} {L nr nc cr cc:Nat} {R C:Option Addr} {rows cols:List ByteArray} {f:ByteArray->Bool}
theorem zhm (hT:TabAt w R nr C nc rows cols)(hI:zcT L f rows cols)(hL:L<64)(hcr:nr<=cr)(hcc:nc<=cc) :
  Calls Tryz.prog 274 #[L,.agg #[.slice R nr cr,.slice C nc cc]] w fun e w'=>e=.returned (.bool true)∧Ext w w':=by
 obtain⟨T,U⟩:=hT.nr;have z:=hI.r1;have B:=hI.r12;have r:=hI.c1;have s:=hI.c20;rw [T] at z B;rw [U] at r s;obtain⟨lo,hi,ao,ag,h1,h2⟩:=hT;obtain⟨H,x,rfl,_,_,j,d⟩:=h1.str (show 0<nr by omega);obtain⟨J,y,rfl,_,_,D,p⟩:=h2.str (show 0<nc by omega);obtain rfl:=Option.some.inj (j.out.symm.trans hI.r0);obtain rfl:=Option.some.inj (D.out.symm.trans hI.c0);rw [addr_zero] at d p;have Q:=za (fun W (hW:Ext w W)=>h1.ext hW);have S:=za (fun W (hW:Ext w W)=>h2.ext hW);have G:=za hI;have CX:=fun W (hW:Ext w W)=>hW.aa d;have CY:=fun W (hW:Ext w W)=>hW.aa p;clear h1 h2 hI j D d p T U
 go_enter Tryz.func274,Tryz.ntmps274
 go_upto_region 1 with fail
 generalize U0:w.alloc _=w1 at *;obtain⟨c,I⟩:=gK U0;clear U0;have k1:=I.cell;have d:=CX _ c;have p:=CY _ c;have b:=cY w1;go_wp2_with fail
 go_loopw [7] (fun iv wr=>∃ k:Nat,1<=k∧k<=nr∧iv=.int .i64 k∧Ext w1 wr) (fun iv _=>nr - (intOf iv).toNat)
 case atStart=>exact⟨1,dD _,z,rfl,b⟩
 case round =>
  clear b k1 d p;obtain⟨k,i,E,rfl,a⟩:=hrel
  by_cases hlt:k<nr
  ·have u:(k:Int)<(nr:Int):=oM;have M:(k:Int)<=(cr:Int):=oM;obtain⟨ae,x,e,_,_,j,d⟩:=(Q.out wr (c.trans a)).str hlt;obtain rfl:=Option.some.inj e;obtain⟨g,y,l,hl,o,D⟩:=G.out.rw_ k x i j.out;have O:x.size=y.size+1:=by rw [o,ByteArray.size_append,zdq]
   have ak:x.extract 0 y.size=y:=by rw [o,str_front]
   have h0:0<x.size:=oM;have al:y.size<=12:=by have:=G.out.rsz k x j.out;omega
   have h:=za (zdG.2 D);have m:=za (fun W (hW:Ext w W)=>(Q.out W hW).takeS E);have n:=za g;have F:∀ W,Ext wr W->W.cell? (H.add k)=some (.string x):=fun W hW=>hW.aa d;have Z:∀ W,Ext wr W->∀ q,W.cell? ⟨w.heap.size,q,none⟩=#[Value.slice (some H) nr cr,.slice (some J) nc cc][q]?:=fun W hW=>(I.ext (a.trans hW)).cell;have b:=cY wr;have aj:IntKind.i64.wrap (y.size:Int)=(y.size:Int):=IntWalk.i64_in _ oM;have ai:((y.size:Int)+1==0)=false:=by simp;omega
   have am:(y.size:Int)<=(y.size:Int)+1:=oM;clear g D o d j hl e;go_wp2_with fail
   refine uR (fun X=>Ext wr X) [] (zv.of [0,1,2,3,4,5,6,7,8,9,10,11,12,13,14,15,16,17,18,19,20,21]) ?_;refine uQ ?_;refine zd fun K hK=>?_;go_simp;refine (zaH oM oM).mono ?_;rw [n.out];rintro e Y ⟨rfl,rfl⟩;refine hK.out _ _ b.drew ?_;refine pT ?_;refine uQ ?_;refine zd fun K hK=>?_;go_simp;refine (zcM (m.out _ (c.trans (a.trans b.drew)))).mono ?_;rw [h.out];rintro e w4 ⟨rfl,rfl⟩;refine hK.out _ _ b.drew ?_;refine pT ?_;refine uQ ?_;refine ze ?_;go_wp2_with fail
   go_roundw
   case rel=>exact⟨k+1,oM,oM,gM,a.trans b.drew⟩
   case measure=>simp [intOf];omega
  ·have t:(nr:Int)<=(k:Int):=oM;go_wp2_with fail
   go_loopw [9] (fun iv wr=>∃ k:Nat,1<=k∧k<=nc∧iv=.int .i64 k∧Ext w1 wr) (fun iv _=>nc - (intOf iv).toNat)
   case atStart=>exact⟨1,dD _,r,rfl,a⟩
   case round =>
    clear a t hlt E i;obtain⟨k,i,E,rfl,a⟩:=hrel
    by_cases hlt:k<nc
    ·have u:(k:Int)<(nc:Int):=oM;have M:(k:Int)<=(cc:Int):=oM;obtain⟨af,x,e,_,_,j,d⟩:=(S.out wr (c.trans a)).str hlt;obtain rfl:=Option.some.inj e;obtain⟨g,O,v⟩:=G.out.cw k x i j.out;have V:¬ (4000<(x.size:Int)):=oM;have h:=za (zcb.2 v);have m:=za (fun W (hW:Ext w W)=>(S.out W hW).takeS E);have n:=za g;have F:∀ W,Ext wr W->W.cell? (J.add k)=some (.string x):=fun W hW=>hW.aa d;have Z:∀ W,Ext wr W->∀ q,W.cell? ⟨w.heap.size,q,none⟩=#[Value.slice (some H) nr cr,.slice (some J) nc cc][q]?:=fun W hW=>(I.ext (a.trans hW)).cell;have b:=cY wr;clear g v d j e;go_wp2_with (first
      |(go_at_call 146;refine (zaH oM oM).mono ?_;rw [n.out];rintro e Y ⟨rfl,rfl⟩)
      |(go_at_call 228;refine (zcM (m.out _ (c.trans a))).mono ?_;rw [h.out];rintro e Y ⟨rfl,rfl⟩))
     go_roundw
     case rel=>exact⟨k+1,oM,oM,gM,a⟩
     case measure=>simp [intOf];omega
    ·have t:(nc:Int)<=(k:Int):=oM;go_wp2_with fail
     go_ret;exact⟨rfl,c.trans a⟩
end
end Go.Proofs.YtckbjnndaaoddaaGreatDoor
