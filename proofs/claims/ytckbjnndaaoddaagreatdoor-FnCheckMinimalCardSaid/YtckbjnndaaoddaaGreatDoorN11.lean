/- The referenc -/
import Derived.Test.YtckbjnndaaoddaaGreatDoorN10
set_option maxHeartbeats 4000000
set_option maxRecDepth 100000
namespace Go.Proofs.YtckbjnndaaoddaaGreatDoor
open Go Go.RowKit
open Blk renaming new->dX
open Bool renaming and_eq_true->dI,eq_false_iff->eM,not_eq_true'->gG
open Ext renaming drew->eV,refl->dB,trans->eJ,x1_->fY
open List renaming append_assoc->gW,append_nil->gY,drop_eq_getElem_cons->fN,eq_nil_of_length_eq_zero->dU,getD_eq_getElem?_getD->dF,getElem?_of_mem->eB,getElem?_take_of_lt->jI,length_map->dQ,length_take->eT,map_append->eK,map_cons->eY,map_singleton->iS,mem_of_getElem?->dC,mem_replicate->jK,replicate->dT,take_add_one->dO,take_append_drop->i7,take_of_length_le->dK
open Nat renaming eq_of_testBit_eq->fV,eq_zero_or_pos->gO,le_of_lt_succ->eQ,le_refl->dE,le_trans->dL,lt_or_eq_of_le->eF,pow_le_pow_right->dV,testBit_and->iX,testBit_two_pow_sub_one->jA,zero_le->dG,zero_testBit->iD
open Option renaming toList_some->eD
variable {A C R:Option Addr} {L N b0 c0 cc g0 hi k l lo n nc:Nat} {O T v:List Nat} {cols rows:List ByteArray} {f:ByteArray->Bool} {p:Aut} {s:Sys} {ss:List Sys} {t x y:ByteArray} {w:World}
theorem spec_l2Rank {p:Nat} (hp:p<=16)(hk:k<=p) :
  Calls Tryz.prog 297 #[.int .i64 (2 ^ p - 1:Nat),k] w fun e w'=>e=.returned (.int .i64 (k:Nat))∧w=w':=by
 have f:2 ^ p - 1<65536:=by have:=dV (show 1<=2 by omega) hp;have:(2:Nat) ^ 16=65536:=rfl;omega
 have c:=za (fun i (a:i<p)=>show (2 ^ p - 1).testBit i=true by rw [jA];simpa using a);generalize 2 ^ p - 1=F at *
 go_enter Tryz.func297,Tryz.ntmps297
 go_wp2_with fail
 go_loop [5,6] (fun v iv=>∃ i:Nat,iv=.int .i64 i∧i<=k∧v=.int .i64 i) (fun _ iv=>k - (intOf iv).toNat)
 case atStart=>exact⟨0,rfl,dG _,rfl⟩
 case round =>
  obtain⟨i,rfl,a,rfl⟩:=hrel
  by_cases hlt:i<k
  ·have b:(i:Int)<(k:Int):=oM;have d:=za (c.out i oM);go_wp2_with (go_at_call 143;refine (zau F i tM _ oM).mono ?_;rw [d.out];rintro e w' ⟨rfl,rfl⟩)
   go_round
   case rel=>exact⟨i+1,gM,oM,gM⟩
   case measure=>simp [intOf];omega
  ·obtain rfl:i=k:=oM;go_wp2_with fail
   go_ret;exact⟨rfl,rfl⟩
section
variable {w W:World} {lo hi n c m d m' d':Nat} {A B B':Option Addr} {s:Sys} {p:Aut}
theorem yN11a1 {P:Prop}(h:P:=by
 refine zb fun K hK=>?_;go_simp;refine hK.out _ _ ?_;refine ze ?_;go_wp2_with fail
 go_meet;obtain⟨w1,h1,h2⟩:=Hfin.out;exact⟨w1,rfl,h1,h2⟩
 ):P:=h
theorem spec_l2Keep {P:Nat}(h:zO w lo hi A n s)(hv:zk s=true)(hP:s.st=(P:Int))(hn:n<=1000000)(hhi:hi<=w.heap.size) :
  Calls Tryz.prog 269 #[.agg #[s.al,s.st,.slice A n c],.int .i64 (2 ^ P - 1:Nat)] w (RetSys w s):=by
 have ap:=zbZ hv;obtain⟨an,ao,I,-⟩:=ap;have D:P<=16:=oM;have M:s.st.toNat=P:=oM;rw [M] at I;have Hf:=za I;have HS:=za (fun W (hW:Ext w W)=>h.ext hW);have Z:=za h.1;have ad:=za hP;have hF:2 ^ P - 1<65536:=by have:=dV (show 1<=2 by omega) D;have:(2:Nat) ^ 16=65536:=rfl;omega
 have G:=za (fun k W (Y:k<=P)=>spec_l2Rank (w:=W) D Y);have HB:=za (fun i (hi:i<P)=>show (2 ^ P - 1).testBit i=true by rw [jA];simpa using hi);rw [hP];generalize 2 ^ P - 1=F at *;clear h hv hP an ao I M
 go_enter Tryz.func269,Tryz.ntmps269
 go_upto_region 1 with fail
 generalize U0:(w.alloc _).alloc _=l at *;obtain⟨t,b1,b2⟩:=Ext.x2_ U0;clear U0;have CB:=b1.cells;have B:=dB l;have aT:=b2.lt;have O:=za (fun W=>G.out P W (dE _));have j:=B.drew;have ar:=(dB l.drew).alloc (.cells #[(0:Int),(0:Int),()] 38);have bG:=dX l.drew 38 #[(0:Int),(0:Int),()]
 go_cut [5] (fun v wx=>∃ w1,v=.pointer (some l.heap.size)∧Ext l w1∧Gr2 w1 wx l.heap.size s.al (P:Nat) (.slice none 0 0) [])
 case first =>
  have U:∃ w1,Ext l w1∧Gr2 w1 (l.alloc (.cells #[s.al,.int .i64 (P:Nat),()] 38)).drew l.heap.size s.al (P:Nat) (.slice none 0 0) []:=
   ⟨(l.alloc (.cells #[s.al,.int .i64 (P:Nat),()] 38)).drew,((dB _).alloc _).drew,dX l _ _,World.ownsRow_nil _ _ _ _,Frm.refl _ _,sM⟩
  have Hfin:=za U;have cG:=bG.cell;have fG:=bG.frozen;rw [show l.drew.heap.size=l.heap.size from rfl] at cG fG;clear U;refine uR (fun X=>Ext l X) [8] (zw.app [0,1,2,3,4] (zw.two 5 (zw.of [6,7,8]) 7 (zw.of [5,6,8]))) ?_;refine uQ ?_;refine zm (fun K hK=>?_) (fun K hK=>?_)
  ·go_simp;refine (O.out _).mono ?_;rintro e T ⟨rfl,rfl⟩;refine hK.out _ _ j ?_;refine pT ?_;refine uQ ?_;refine zd fun K hK=>?_;go_simp;refine hK.out _ _ (j.alloc _) ?_;refine pT ?_;exact yN11a1
  ·go_simp;refine hK.out _ _ (j.alloc _) ?_;refine pT ?_;refine zd fun K hK=>?_;go_simp;refine (O.out _).mono ?_;rintro e T ⟨rfl,rfl⟩;refine hK.out _ _ (j.alloc _) ?_;refine pT ?_;refine uQ ?_;exact yN11a1
 case rest =>
  obtain⟨w1,rfl,f,a⟩:=hcut;have ae:=za (fun W (hW:Ext w1 W)=>HS.out W (t.trans (f.trans hW)));have ab:∀ W,Frm (fun k=>k=l.heap.size) w1 W->∀ q,W.cell? ⟨w.heap.size,q,none⟩=#[Value.int .i64 s.al,.int .i64 (P:Nat),.slice A n c][q]?:=fun W hW=>((b1.ext f).frm hW oM).cell;have aD:=f.size;clear ar bG j CB B;go_wp2_with fail
  go_loopw [6] (fun iv wr=>∃ (k:Nat) (v:Value),iv=.int .i64 k∧k<=n∧Gr2 w1 wr l.heap.size s.al (P:Nat) v (s.edges.take k)) (fun iv _=>n - (intOf iv).toNat)
  case atStart=>exact⟨0,_,rfl,dG _,a⟩
  case round =>
   clear a;obtain⟨k,v,rfl,Y,a⟩:=hrel;have k1:=ab wr a.fr
   by_cases hlt:k<n
   ·have aC:(k:Int)<(n:Int):=oM;have ak:=(ae.out w1 (dB _)).frm a.fr (fun k h1 h2 e=>oH t.size);obtain⟨g,o,x,rfl,aB,aA,hx,c0,H,c2⟩:=ak.2.az hlt;obtain⟨⟨f0,f1⟩,⟨l0,l1⟩,t0,t1⟩:=Hf.out x (dC hx.out);obtain⟨p,y⟩:∃ p:Nat,Hid (x.fr=p):=⟨x.fr.toNat,by unfold Hid;omega⟩;obtain⟨d,z⟩:∃ d:Nat,Hid (x.ta=d):=⟨x.ta.toNat,by unfold Hid;omega⟩;have Q:p<P:=oH y.out;have S:d<P:=oH z.out;rw [y.out] at c0;rw [z.out] at c2;have ai:=za (fun W=>G.out p W oM);have aj:=za (fun W=>G.out d W oM);have ag:=za (HB.out p Q);have ah:=za (HB.out d S);have au:=(dB wr).alloc (.cells #[p,x.le,d] 117);have be:=dX wr 117 #[p,x.le,d];have E:=a.ar au;have aU:=za a.fr.size;have aV:=za (show zu (s.edges.take (k+1))=zu (s.edges.take k)++[.int .i64 p,.int .i64 x.le,.int .i64 d] by
     rw [dO,hx.out,eD,zbx,← y.out,← z.out];rfl)
    have r:=za (show (s.edges.take k).length=k by rw [eT];have:=Z.out;omega);clear f0 f1 t0 t1 a;go_upto_region 6 with fail
    generalize hge:wr.heap.size=ge at *;have aH:=za hge;clear hge;generalize wr.alloc _=w2 at *;have ce:=be.cell;go_wp2_with (first
     |(go_at_call 143;with_reducible refine (zau F p tM _ oM).mono ?_;rw [ag.out];rintro e T ⟨rfl,rfl⟩)
     |(go_at_call 143;with_reducible refine (zau F d tM _ oM).mono ?_;rw [ah.out];rintro e T ⟨rfl,rfl⟩))
    have CE:=be.cells;have CG:=fun W (hW:Ext w2 W)=>(E.blk.ext hW).cell;have B:=dB w2;clear ce;refine uR (fun X=>Ext w2 X) [14,16] (zw.of [0,1,2,3,4,6,7,8,9,10,5,11,12,13,14,15,16]) ?_;refine uQ ?_;have C:=B.drew;refine zd fun K hK=>?_;go_simp;refine (ai.out _).mono ?_;rintro e T ⟨rfl,rfl⟩;refine hK.out _ _ C ?_;refine pT ?_;refine uQ ?_;refine zd fun K hK=>?_;go_simp;refine (aj.out _).mono ?_;rintro e T ⟨rfl,rfl⟩;refine hK.out _ _ C ?_;refine pT ?_;refine uQ ?_;refine zd fun K hK=>?_;go_simp;refine hK.out _ _ (C.alloc _) ?_;refine pT ?_;refine zb fun K hK=>?_;have m:=E.ar C;have J:=m.own;rw [r.out] at J;refine zaE w1 w2.drew _ _ _ rfl 117 _ 3 24 Tryz.underlying36 zbb rfl dM v k (zu (s.edges.take k)) _ _ rfl rfl m.fr.size J rfl (by simp [Value.oneCell']) lM oM ?_;intro g8 cap8 w8 hown8 hg8 hat8 hlt8;refine hK.out _ _ ?_;refine pT ?_;refine uQ ?_;obtain⟨p1,p2,p3⟩:=m.push (e:=⟨p,x.le,d⟩) (W':=w8) (by rw [r.out];exact hown8) hg8;have aW:=p1.out;have am:=za (show s.edges.take k++[⟨p,x.le,d⟩]=s.edges.take (k+1) by
     rw [dO,hx.out,eD,← y.out,← z.out])
    rw [am.out,r.out] at p3;refine zb fun K hK=>?_;go_simp;refine hK.out _ _ ?_;refine ze ?_;clear hown8 hg8 hat8 J p1 m;generalize w8.setCell ⟨l.heap.size,2,none⟩ (.slice (some g8) (k+1) cap8)=aZ at *;go_wp2_with fail
    go_roundw
    case rel=>exact⟨k+1,_,gM,oM,p3⟩
    case measure=>simp [intOf];omega
   ·obtain rfl:k=n:=oM;rw [dK (oH Z.out)] at a;have u:=a.own;rw [← Z.out] at u;obtain⟨L,H,rfl⟩:=zg u;have V:=(b2.ext f).frm a.fr oM;have kz:=V.cell;have fz:=V.frozen;have kG:=a.blk.cell;have I:=zV wr (w.heap.size+1) (.int .i64 s.al) (.int .i64 (P:Nat)) (.slice L k H);have cf:=(zaq V rfl (.int .i64 s.al) (.int .i64 (P:Nat)) (.slice L k H)).cell;have av:Ext w wr:=(t.trans f).frm a.fr (fun k Y e=>oH t.size);have R:=za (show RetSys w s (.returned (.agg #[s.al,.int .i64 (P:Nat),.slice L k H])) (((wr.setCell ⟨w.heap.size+1,0,none⟩ s.al).setCell ⟨w.heap.size+1,1,none⟩ (.int .i64 (P:Nat))).setCell ⟨w.heap.size+1,2,none⟩ (.slice L k H)) from
     ⟨L,k,H,by rw [ad.out],⟨Z.out,zn (zf u I (fun b hv e=>zq u V dM hv e)) (t.trans f).size⟩,av.frm I (fun k Y e=>oM)⟩)
    clear I u;go_wp2_with fail
    exact bodyPost_ret (v:=.agg #[s.al,.int .i64 (P:Nat),.slice L k H]) (by simp [results,Tryz.results269,go_sem,cf]) rfl R.out
end
theorem goes_filter {f:Nat->Bool}:∀ (n:Nat) (v:List Nat),v.length=n->(∀ l∈v,s.al.toNat.testBit l=true->f l=true)->∀ q,zbu (cho s) [0] (v.filter f) q↔zbu (cho s) [0] v q:=by
 intro n
 induction n with
 |zero =>
  intro v hl _ q;obtain rfl:=dU hl;exact Iff.rfl
 |succ n b =>
  intro v hl h q;rcases zaf v with rfl|⟨u,l,rfl⟩
  ·simp at hl
  have b:=b u (by simpa using hl) (fun k hk=>h k (by simp [hk]));rw [List.filter_append];cases hf:f l
  ·have c:s.al.toNat.testBit l=false:=by
    rw [eM];intro c;have:=h l sM c;rw [hf] at this;cases this
   rw [show List.filter f [l]=[] by simp [hf],gY,b];constructor
   ·intro h1;exact .snoc h1 (by unfold cho;rw [c];simp)
   ·intro h1;obtain⟨m,h2,a⟩:=h1.inv;unfold cho at a;rw [c] at a;simp at a;rw [a];exact h2
  ·rw [show List.filter f [l]=[l] by simp [hf]];constructor
   ·intro h1;obtain⟨m,h2,a⟩:=h1.inv;exact .snoc ((b m).1 h2) a
   ·intro h1;obtain⟨m,h2,a⟩:=h1.inv;exact .snoc ((b m).2 h2) a
theorem runs_filter {f:Nat->Bool} (h:∀ l∈v,s.al.toNat.testBit l=true->f l=true):Runs s (v.filter f)↔Runs s v:=exists_congr fun q=>goes_filter _ v rfl h q
def Over (A:Nat) (v:List Nat):Prop:=∀ l∈v,l<6∧A.testBit l=true
theorem zgx {A:Nat} :(∀ l∈v,l∈letters A 6)↔Over A v:=by unfold Over;simp only [zG]
theorem zhX {a:Aut}:zcH s a p=true↔(zk s=true∧zi a=true∧zi p=true)∧∀ v,Over (s.al.toNat|||a.al.toNat) v->Runs s v->zaC a (zbh a 0 v)=true->zaC p (zbh p 0 v)=true:=by
 unfold zcH zcF;simp only [dI,gG];constructor
 ·rintro ⟨⟨h1,h2,b⟩,d⟩;refine⟨⟨h1,h2,b⟩,fun v c h f=>?_⟩;cases g:zaC p (zbh p 0 v)
  ·have:=(zjc (ss:=[s]) (by simpa using h1) h2 b).2 ⟨v,zgx.2 (by simpa [zK] using c),by simpa using h,f,g⟩;rw [d] at this;cases this
  ·rfl
 ·rintro ⟨⟨h1,h2,b⟩,d⟩;refine⟨⟨h1,h2,b⟩,?_⟩;rw [eM];intro c;obtain⟨v,c,h,f,g⟩:=(zjc (ss:=[s]) (by simpa using h1) h2 b).1 c;have:=d v (by have:=zgx.1 c;simpa [zK] using this) (h s sM) f;rw [g] at this;cases this
theorem runA_free (q:Nat) (v:List Nat):zbh free q v=q:=by
 induction v generalizing q with
 |nil=>rfl
 |cons l r ih =>
  show zbh free (aGo free q l) r=q;rw [show aGo free q l=q by simp [aGo,free],ih]
theorem zhW :zcn ss p=true↔(zC ss=true∧zi p=true)∧∀ v,Over (zK ss) v->(∀ s∈ss,Runs s v)->zaC p (zbh p 0 v)=true:=by
 unfold zcn zdc;simp only [dI,gG];have h:∀ v,zaC free (zbh free 0 v)=true:=fun v=>by rw [runA_free];rfl
 have g:zK ss|||free.al.toNat=zK ss:=by simp [free]
 constructor
 ·rintro ⟨⟨h1,h2⟩,c⟩;refine⟨⟨h1,h2⟩,fun v b f=>?_⟩;cases d:zaC p (zbh p 0 v)
  ·have:=(zjc (a:=free) (zaO h1).2 zdV h2).2 ⟨v,zgx.2 (by rw [g];exact b),f,h v,d⟩;rw [c] at this;cases this
  ·rfl
 ·rintro ⟨⟨h1,h2⟩,c⟩;refine⟨⟨h1,h2⟩,?_⟩;rw [eM];intro b;obtain⟨v,b,f,i,d⟩:=(zjc (a:=free) (zaO h1).2 zdV h2).1 b;have:=c v (by rw [g] at b;exact zgx.1 b) f;rw [d] at this;cases this
theorem runB_goes {p:Nat}(hf:Few p s.edges)(hp:p<=16):∀ (n:Nat) (v:List Nat),v.length=n->(∀ l∈v,s.al.toNat.testBit l=true)->∀ q,(zgi s.edges 1 v).testBit q=true↔zbu (cho s) [0] v q:=by
 intro n
 induction n with
 |zero =>
  intro v hl _ q;obtain rfl:=dU hl;constructor
  ·intro h;refine .nil ?_;cases q with
   |zero=>simp
   |succ q =>
    exfalso;have h1:(1:Nat).testBit (q+1)=true:=h;rw [Nat.testBit_succ] at h1;simp at h1
  ·intro h;have:=h.ah;simp at this;subst this;show (1:Nat).testBit 0=true;decide
 |succ n b =>
  intro v hl h q;rcases zaf v with rfl|⟨u,l,rfl⟩
  ·simp at hl
  have b:=b u (by simpa using hl) (fun k hk=>h k (by simp [hk]));rw [zft,zcp];have d:=h l sM;constructor
  ·rintro ⟨e,a,⟨h1,h2⟩,rfl⟩;have j:=hf e a;refine .snoc ((b _).1 h2) ?_;unfold cho;rw [if_pos d];refine zG.2 ⟨oM,(zcO _ _ _ _).2 ⟨e,a,⟨oM,h1⟩,rfl⟩⟩
  ·intro h1;obtain⟨m,h2,c⟩:=h1.inv;unfold cho at c;rw [if_pos d] at c;obtain⟨e,a,⟨f,g⟩,i⟩:=(zcO _ _ _ _).1 (zG.1 c).2;exact⟨e,a,⟨g,by rw [f];simpa using (b m).2 h2⟩,i⟩
theorem bits_some {x:Nat}:(x != 0)=true↔∃ q,x.testBit q=true:=by
 rw [bne_iff_ne];constructor
 ·intro h;apply Classical.byContradiction;intro hn;refine h (fV fun q=>?_);rw [iD,eM];exact fun a=>hn ⟨q,a⟩
 ·rintro ⟨q,a⟩ rfl;rw [iD] at a;cases a
theorem aft_runs (hv:zk s=true)(hw:zaW x=true):(zee s (zbg x s.al.toNat) != 0)=true↔Runs s (wl x):=by
 obtain⟨p,_,_,a,b⟩:=zbl hv;unfold zee;rw [hv,zfs hw,Bool.and_self,if_pos rfl,wl_restB hw,bits_some];refine Iff.trans ?_ (runs_filter (f:=fun l=>s.al.toNat.testBit l) (fun l _ h=>h));exact exists_congr fun q=>runB_goes b a _ _ rfl (fun l hl=>by simpa using (List.mem_filter.1 hl).2) q
theorem top_iff :zij ss x=true↔zC ss=true∧zaW x=true∧Over (zK ss) (wl x)∧∀ s∈ss,Runs s (wl x):=by
 unfold zij;simp only [dI,List.all_eq_true];constructor
 ·rintro ⟨h1,h2,a⟩;have c:=zaQ h2;refine⟨h1,c,fun l hl=>⟨zhK c l hl,?_⟩,fun s hs=>(aft_runs ((zaO h1).2 s hs) c).1 (a s hs)⟩;have b:=(inB_iff.1 h2).2;have d:=(zgG (wl x) l).2 hl;rw [← b,iX,dI] at d;exact d.2
 ·rintro ⟨h1,h2,a,b⟩;refine⟨h1,inB_iff.2 ⟨h2,fV fun k=>?_⟩,fun s hs=>(aft_runs ((zaO h1).2 s hs) h2).2 (b s hs)⟩;rw [iX];cases hk:(alB (wl x)).testBit k
  ·rfl
  ·rw [(a k ((zgG _ k).1 hk)).2];rfl
theorem iface_nat {t:Sys} (hs:zk s=true)(hp:zi p=true)(ht:zk t=true):iface s p t=(((s.al.toNat|||p.al.toNat)&&&t.al.toNat:Nat):Int):=by
 unfold iface;rw [hs,hp,ht];rfl
theorem zfi {t:Sys} (h:0<=iface s p t):zk s=true∧zi p=true∧zk t=true:=by
 have h1:¬ iface s p t<0:=oM;rw [zfh] at h1;simpa using h1
def RetSt (N:Nat) (Q:Nat->Nat->Prop) (w:World) (e:Ending) (w':World):Prop:=
 ∃ (T:List Nat) (g c:Nat),e=.returned (.slice (some g) N c)∧w'.ownsRow w.heap.size 3 1 (.slice (some g) N c) N (zae T)∧zeD T N Q∧Ext w w'
def mset (s:Sys) (x l:Nat):Nat:=if s.al.toNat.testBit l then zbr s.edges x (l:Int) else x
theorem mset_bit (hs:Sml s) (x l q':Nat):(mset s x l).testBit q'=true↔∃ q,x.testBit q=true∧q'∈cho s q l:=by
 unfold mset;split
 ·rename_i h;exact ziX hs h x q'
 ·rename_i h;constructor
  ·intro h1;exact⟨q',h1,by unfold cho;rw [if_neg h];simp⟩
  ·rintro ⟨q,h1,h2⟩;unfold cho at h2;rw [if_neg h] at h2;simp at h2;rw [h2];exact h1
theorem mset_lt (hs:Sml s) {x:Nat}(hx:x<65536) (l:Nat):mset s x l<65536:=by
 unfold mset;split
 ·exact zih hs _ _
 ·exact hx
structure MvI (s:Sys) (p:Aut) (l N:Nat) (T:List Nat) (k:Nat) (O:List Nat):Prop where
 len:O.length=N
 lt:∀ x∈O,x<65536
 bit:∀ j q',bitS O j q'↔∃ i q,i<k∧bitS T i q∧q'∈cho s q l∧j=aGo p i l
theorem MvI.step (h:MvI s p l N T k O)(hs:Sml s)(hp:zi p=true)(hN:N=p.next.length)(hT:∀ x∈T,x<65536)(hk:k<N)(hl:l<6) :
  MvI s p l N T (k+1) (O.set (aGo p k l) (O.getD (aGo p k l) 0|||mset s (T.getD k 0) l)):=by
 have f:aGo p k l<O.length:=by rw [h.len,hN];exact zfS hp oM hl
 refine⟨by rw [List.length_set];exact h.len,fun x c=>?_,fun j q'=>?_⟩
 ·rcases List.mem_or_eq_of_mem_set c with c|rfl
  ·exact h.lt x c
  ·exact Nat.or_lt_two_pow (n:=16) (zeH h.lt _) (mset_lt hs (zeH hT _) _)
 ·rw [zio f,h.bit,mset_bit hs];constructor
  ·rintro (⟨i,q,h1,h2,a,b⟩|⟨h1,q,h2,a⟩)
   ·exact⟨i,q,oM,h2,a,b⟩
   ·exact⟨k,q,oM,h2,a,h1⟩
  ·rintro ⟨i,q,h1,h2,a,b⟩;rcases eF (eQ h1) with d|rfl
   ·exact .inl ⟨i,q,d,h2,a,b⟩
   ·exact .inr ⟨b,q,h2,a⟩
theorem MvI.zero (s:Sys) (p:Aut) (l N:Nat) (T:List Nat):MvI s p l N T 0 (dT N 0):=by
 refine⟨sM,fun x hx=>by rw [jK] at hx;omega,fun j q'=>?_⟩;constructor
 ·intro h;unfold bitS at h;rw [dF] at h;cases h1:(dT N 0)[j]? with
  |none=>rw [h1] at h;simp at h
  |some x =>
   have:=dC h1;rw [jK] at this;rw [h1,this.2] at h;simp at h
 ·rintro ⟨_,_,h,_⟩;omega
theorem MvI.fin {B:Nat->Nat->Prop}(h:MvI s p l N T N O)(hT:zeD T N B):zeD O N (mvB s p l B):=by
 refine⟨h.len,h.lt,fun j q'=>?_⟩;rw [h.bit];constructor
 ·rintro ⟨i,q,h1,h2,a,b⟩;exact⟨q,i,(hT.2.2 i q).1 h2,a,b⟩
 ·rintro ⟨q,i,h2,a,b⟩;have c:=(hT.2.2 i q).2 h2;exact⟨i,q,by rw [← hT.1];exact bitS_lt c,c,a,b⟩
def badT (p:Aut) (T:List Nat) (N:Nat):Bool:=(List.range N).any fun i=>T.getD i 0 != 0&&!zaC p i
theorem zim :badT p T N=true↔∃ i,i<N∧T.getD i 0≠0∧zaC p i=false:=by
 unfold badT;rw [List.any_eq_true];constructor
 ·rintro ⟨i,h1,h2⟩;rw [List.mem_range] at h1;simp only [dI,bne_iff_ne,gG] at h2;exact⟨i,h1,h2.1,h2.2⟩
 ·rintro ⟨i,h1,h2,a⟩;exact⟨i,List.mem_range.2 h1,by simp [a];simpa using h2⟩
section
variable {w:World} {lo hi n c m d m' d' L:Nat} {A B B':Option Addr} {s:Sys} {p:Aut}
theorem spec_l9Start (hS:zO w lo hi A n s)(hP:zH w lo hi B m B' m' p)(hv:zk s=true)(hp:zi p=true)(hL:L<64)(hhi:hi<=w.heap.size)(hN:N=p.next.length) :
  Calls Tryz.prog 147 #[.agg #[s.al,s.st,.slice A n c,p.al,.slice B m d,.slice B' m' d',L]] w (RetSt N (PR s p L []) w):=by
 have J:m=N:=hP.n1.trans hN.symm;subst J;have g:1<=m∧m<=12:=by have:=(zl hp).2.1;omega
 have E:=za (fun W (hW:Ext w W)=>hS.ext hW);have D:=za (fun W (hW:Ext w W)=>hP.ext hW);have C:=za hN;clear hS hP hN
 go_enter Tryz.func147,Tryz.ntmps147
 go_upto_region 1 with fail
 generalize U0:w.alloc _=w1 at *;obtain⟨a,o⟩:=fY U0;have G:=o.lt;clear U0;have z:=o.cell;go_upto_region 2 with (at_make;refine zbm w1 w1 rfl _ _ 110 rfl 3 _ 1 8 Tryz.underlying110 zS _ _ m rfl rfl (dB _) oM lM ?_;intro w2 hx2 zjo hx23 hsz2)
 rw [madeZ] at zjo;have j:=(zjo.stored 0 (.int .i64 1)).1;rw [show (zae (dT m 0)).set 0 (.int .i64 1)=zae ((dT m 0).set 0 1) from (zdY (i:=0) (v:=1) (R:=dT m 0)).symm] at j;have I:=zjo.frozenAt 0;have H:=zcB zjo (show 0<m by omega);have f:=(a.trans hx2).setCell (p:=⟨w1.heap.size,0,none⟩) a.size (.int .i64 1);have y:=(o.ext hx2).far (p:=⟨w1.heap.size,0,none⟩) (by dsimp only;omega) (.int .i64 1);have F:(0:Int)<(m:Int):=oM;clear z;have z:=y.cell;have O:=za (fun l (hT':zeD l m (fun q i=>q=0∧i=0))=>hT');have t:=E.out _ f;have r:=D.out _ f;have u:=stand_start g.1;have M:=a.size;clear hx23;go_wp2_with fail
 refine (zfZ (c:=c) (d:=d) (d':=d') t r hv hp hL C.out oM j u).mono ?_;rintro e Q ⟨l,rfl,b,x,h⟩;go_wp2_with fail
 go_ret;exact⟨l,w1.heap.size,m,rfl,zn b a.size,x,f.frm h (fun k hk e=>oM)⟩
theorem spec_l9Move {Q:Nat->Nat->Prop}(hS:zO w lo hi A n s)(hP:zH w lo hi B m B' m' p)(hv:zk s=true)(hp:zi p=true)(hL:L<64)(hhi:hi<=w.heap.size)(hN:N=p.next.length)(hl:l<6)
  (zje:w.ownsRow b0 3 1 (.slice (some g0) N c0) N (zae T)) (hT:zeD T N Q) :
  Calls Tryz.prog 149 #[.agg #[s.al,s.st,.slice A n c,p.al,.slice B m d,.slice B' m' d',L],.slice (some g0) N c0,l] w (RetSt N (Cl s p L (mvB s p l Q)) w):=by
 have D:=zbZ hv;obtain⟨aE,aF⟩:=zT hv;obtain⟨al,C⟩:∃ al:Nat,Hid (s.al=al):=⟨s.al.toNat,by unfold Hid;omega⟩;have am:al<64:=oH C.out;have U:=za (show s.al.toNat=al by have:=C.out;omega);have av:1<=N∧N<=12:=by have:=(zl hp).2.1;omega
 have HS:=za (fun W (hW:Ext w W)=>hS.ext hW);have HP:=za (fun W (hW:Ext w W)=>hP.ext hW);have J:=za hN;have HT:=za hT;have aH:=(zje.lt g0 rfl).2;clear hS hP hN hT
 go_enter Tryz.func149,Tryz.ntmps149
 go_upto_region 1 with fail
 generalize U0:w.alloc _=w1 at *;obtain⟨V,b1⟩:=fY U0;have aG:=b1.lt;clear U0;go_wp2_with (at_make;refine zbm w1 w1 rfl _ _ 110 rfl 3 _ 1 8 Tryz.underlying110 zS _ _ N rfl rfl (dB _) oM lM ?_;intro w2 hx2 zjo hx23 hsz2)
 rw [madeZ] at zjo;have ay:=V.size;have ap:=V.trans hx2;clear hx23;obtain⟨r,S⟩:∃ r,r=w1.heap.size:=⟨_,rfl⟩;rw [← S] at zjo ⊢;have aD:w.heap.size<r:=oM;clear S
 go_loopw [8] (fun iv wr=>∃ (i:Nat) (O:List Nat),iv=.int .i64 i∧i<=N∧Hid (MvI s p l N T i O)∧wr.ownsRow r 3 1 (.slice (some r) N N) N (zae O)∧Frm (fun k=>k=r) w2 wr) (fun iv _=>N - (intOf iv).toNat)
 case atStart=>exact⟨0,_,rfl,dG _,za (MvI.zero s p l N T),zjo,Frm.refl _ _⟩
 case round =>
  clear zjo;obtain⟨i,O,rfl,hi,hO,f,t⟩:=hrel;have h:Ext w wr:=ap.frm t (fun k hk e=>oM);have k1:=((b1.ext hx2).frm t oM).cell
  by_cases hlt:i<N
  ·have ax:(i:Int)<(N:Int):=oM;have cI:=zcB (zh zje h) hlt;obtain⟨x,hx⟩:∃ x,Hid (T.getD i 0=x):=⟨_,rfl⟩;have X:x<65536:=by rw [← hx.out];exact zeH HT.out.2.1 i
   rw [hx.out] at cI;have CB:∀ W,Ext wr W->∀ q,W.cell? ⟨w.heap.size,q,none⟩=#[Value.int .i64 al,.int .i64 s.st,.slice A n c,.int .i64 p.al,.slice B m d,.slice B' m' d',.int .i64 L][q]?:=fun W hW q=>by rw [(((b1.ext hx2).frm t oM).ext hW).cell,C.out]
   have CI:∀ W,Ext wr W->W.cell? ⟨g0,i,none⟩=some (.int .i64 (x:Nat)):=fun W hW=>hW.aa cI;obtain⟨j,hj⟩:∃ j,Hid (aGo p i l=j):=⟨_,rfl⟩;have an:j<N:=by rw [← hj.out,J.out];exact zfS hp (by rw [← J.out];exact hlt) hl
   have aw:(j:Int)<(N:Int):=oM;obtain⟨v,H⟩:∃ v,Hid (O.getD j 0=v):=⟨_,rfl⟩;obtain⟨y,hy⟩:∃ y,Hid (mset s x l=y):=⟨_,rfl⟩;obtain⟨u,hu⟩:∃ u,Hid (v|||y=u):=⟨_,rfl⟩;have aA:v<65536:=by rw [← H.out];exact zeH hO.out.lt j
   have aB:y<65536:=by rw [← hy.out];exact mset_lt D X l
   have ao:=zbE (a:=v) (b:=y) tM tM;rw [hu.out] at ao;have CJ:∀ W,Ext wr W->W.cell? ⟨r,j,none⟩=some (.int .i64 (v:Nat)):=fun W hW=>hW.aa (H.out ▸ zcB f an);have FJ:∀ W,Ext wr W->W.frozen? ⟨r,j,none⟩=false:=fun W hW=>(zh f hW).frozenAt j;have g:=hO.out.step D hp J.out HT.out.2.1 hlt hl;rw [hj.out,H.out,hx.out,hy.out,hu.out] at g;have o:=za g;have M:=za (fun W (hW:Ext wr W)=>((zh f hW).stored j (.int .i64 (u:Nat))).1);have aI:=dB wr;clear g k1 cI;cases hb:al.testBit l
   ·have Hb:=za hb;have I:x=y:=by rw [← hy.out];unfold mset;rw [U.out,hb];rfl
    subst I;clear hb;go_wp2_with (first
     |(go_at_call 143;refine (zau al l tM _ oM).mono ?_;rw [Hb.out];rintro e w' ⟨rfl,rfl⟩)
     |(go_at_call 225;refine (zdh (HP.out _ h) hp (by rw [← J.out];exact hlt) hl).mono ?_;rw [hj.out];rintro e w4 ⟨rfl,E⟩))
    have z:=M.out w4 E;rw [← zdY] at z;go_roundw
    case rel=>exact⟨i+1,O.set j u,gM,oM,o,z,(t.ext E).trans (Frm.setCell _ r j _)⟩
    case measure=>simp [intOf];omega
   ·have Hb:=za hb;have I:Hid (zbr s.edges x (l:Int)=y):=by unfold Hid;rw [← hy.out];unfold mset;rw [U.out,hb];rfl
    clear hb;go_wp2_with (first
     |(go_at_call 143;refine (zau al l tM _ oM).mono ?_;rw [Hb.out];rintro e w' ⟨rfl,rfl⟩)
     |(go_at_call 224;rw [← C.out];refine (zeV (c:=c) (k0:=s.st.toNat) (HS.out _ h) D.2.2.1 (oH D.2.1) tM).mono ?_;rw [I.out];rintro e w3 ⟨rfl,Y⟩;have Z:=h.trans Y)
     |(go_at_call 225;refine (zdh (HP.out _ Z) hp (by rw [← J.out];exact hlt) hl).mono ?_;rw [hj.out];rintro e w4 ⟨rfl,E⟩;have F:=Y.trans E))
    have z:=M.out w4 F;rw [← zdY] at z;go_roundw
    case rel=>exact⟨i+1,O.set j u,gM,oM,o,z,(t.ext F).trans (Frm.setCell _ r j _)⟩
    case measure=>simp [intOf];omega
  ·obtain rfl:i=N:=oM;have ar:=hO.out.fin HT.out;go_wp2_with fail
   refine (zfZ (c:=c) (d:=d) (d':=d') (HS.out _ h) (HP.out _ h) hv hp hL J.out oM f ar).mono ?_;rintro e w4 ⟨T',rfl,G,ak,R⟩;go_wp2_with fail
   go_ret;exact⟨T',r,i,rfl,zn G oM,ak,h.frm R (fun k hk e=>oM)⟩
end
noncomputable def zA (s:Sys) (p:Aut) (L:Nat) (t:ByteArray):Bool:=by
 classical exact inB t L&&decide (SafeW s p L (wl t))
theorem zgX :zA s p L t=true↔inB t L=true∧SafeW s p L (wl t):=by
 unfold zA;simp
section
variable {w:World} {lo hi n c m d m' d' L:Nat} {A B B':Option Addr} {s:Sys} {p:Aut}
theorem spec_l9Bad (hP:zH w lo hi B m B' m' p)(hp:zi p=true)(hN:N=p.next.length)
  (zje:w.ownsRow b0 3 1 (.slice (some g0) N c0) N (zae T)) :
  Calls Tryz.prog 148 #[.agg #[s.al,s.st,.slice A n c,p.al,.slice B m d,.slice B' m' d',L],.slice (some g0) N c0] w fun e w'=>e=.returned (.bool (badT p T N))∧Ext w w':=by
 have t:1<=N∧N<=12:=by have:=(zl hp).2.1;omega
 have l:m'=N:=by rw [hP.n2,(zl hp).2.2.1,hN]
 have v:=za (fun W (hW:Ext w W) q hq=>zcT (q:=q) (hP.ext hW) hq);obtain⟨w1,U0⟩:∃ x,Hid (w.alloc (.cells #[s.al,s.st,.slice A n c,p.al,.slice B m d,.slice B' m' d',L] 70)=x):=⟨_,za rfl⟩;have b:Ext w w1:=((dB _).alloc _).trans (Ext.eq_ U0.out);have y:=Ext.bl_ U0.out;subst l;clear hP hN
 go_enter Tryz.func148,Tryz.ntmps148
 go_upto_region 1 with fail
 rw [U0.out] at *;have F:=y.cell;go_wp2_with fail
 go_loop [5] (fun iv=>∃ i:Nat,iv=.int .i64 i∧i<=m'∧Hid (∀ j,j<i->T.getD j 0=0∨zaC p j=true)) (fun iv=>m' - (intOf iv).toNat)
 case atStart=>exact⟨0,rfl,dG _,za (fun j h=>oM)⟩
 case round =>
  obtain⟨i,rfl,hi,a⟩:=hrel
  by_cases hlt:i<m'
  ·have u:(i:Int)<(m':Int):=oM;obtain⟨E,rfl,r⟩:=v.out w1 b i hlt;have z:=zcB (zh zje b) hlt;obtain⟨x,o⟩:∃ x,Hid (T.getD i 0=x):=⟨_,rfl⟩;rw [o.out] at z
   by_cases h0:x=0
   ·subst h0;go_wp2_with fail
    go_round
    case rel=>exact⟨i+1,gM,oM,za (fun j hj=>by
     rcases eF (eQ hj) with h1|rfl
     ·exact a.out j h1
     ·exact .inl o.out)⟩
    case measure=>simp [intOf];omega
   ·have D:((x:Int) != 0)=true:=by simp;omega
    cases zjf:zaC p i
    ·have k:=za (show badT p T m'=true from zim.2 ⟨i,hlt,by rw [o.out];exact h0,zjf⟩);rw [zjf] at r;clear zjf h0;go_wp2_with fail
     go_ret;exact⟨zj (by rw [k.out]),b⟩
    ·have f:=za zjf;rw [zjf] at r;clear zjf h0;go_wp2_with fail
     go_round
     case rel=>exact⟨i+1,gM,oM,za (fun j hj=>by
      rcases eF (eQ hj) with h1|rfl
      ·exact a.out j h1
      ·exact .inr f.out)⟩
     case measure=>simp [intOf];omega
  ·obtain rfl:i=m':=oM;have k:=za (show badT p T i=false by
    rw [eM];intro h;obtain⟨j,h1,h2,C⟩:=zim.1 h;rcases a.out j h1 with g|g
    ·exact h2 g
    ·rw [C] at g;cases g)
   go_wp2_with fail
   go_ret;exact⟨zj (by rw [k.out]),b⟩
theorem zet (hS:zO w lo hi A n s)(hP:zH w lo hi B m B' m' p)(hv:zk s=true)(hp:zi p=true)(hL:L<64) :
  Calls Tryz.prog 145 #[.agg #[s.al,s.st,.slice A n c,p.al,.slice B m d,.slice B' m' d',L]] w fun e w'=>e=.returned (.bool true)∧Ext w w':=by
 have j:=za (fun W (hW:Ext w W)=>zak (c:=c) (hS.ext hW));have i:=za (fun W (hW:Ext w W)=>zI _ _ _ _ d _ _ d' _ _ (hP.ext hW));rw [hv] at j;rw [hp] at i;have g:=za (show (decide ((0:Int)<=L∧(L:Int)<=63))=true by simp;omega);clear hS hP hv hp
 go_enter Tryz.func145,Tryz.ntmps145
 go_upto_region 1 with fail
 generalize U0:w.alloc _=w1 at *;obtain⟨a,k⟩:=fY U0;clear U0;have o:=k.cells;have l:=dB w1;go_wp2_with (first
  |(go_at_call 185;refine (j.out _ a).mono (mQ fun q b=>?_))
  |(go_at_call 79;refine (i.out _ (a.trans b)).mono (mQ fun r h=>?_);have f:=b.trans h)
  |(go_at_call 142;refine (zW _ _).mono ?_;rw [g.out];rintro e t ⟨rfl,rfl⟩))
 go_ret;exact⟨rfl,a.trans f⟩
theorem zin (h:zeD T N (PR s p L (v.take k))):badT p T N=true↔Bad s p L (v.take k):=zim.trans (stand_bad h).symm
theorem zfw (hS:zO w lo hi A n s)(hP:zH w lo hi B m B' m' p)(hv:zk s=true)(hp:zi p=true)(hL:L<64)(hhi:hi<=w.heap.size)(ht:t.size<=9223372036854775807) :
  Calls Tryz.prog 62 #[.agg #[s.al,s.st,.slice A n c,p.al,.slice B m d,.slice B' m' d',L],t] w fun e w'=>e=.returned (.bool (zA s p L t))∧Ext w w':=by
 obtain⟨N,Z⟩:∃ N,Hid (N=p.next.length):=⟨_,rfl⟩;have HV:=za (fun W (hW:Ext w W)=>zet (c:=c) (d:=d) (d':=d') (L:=L) (hS.ext hW) (hP.ext hW) hv hp hL);have V:=za (fun W (hW:Ext w W)=>spec_l9Start (c:=c) (d:=d) (d':=d') (L:=L) (N:=N) (hS.ext hW) (hP.ext hW) hv hp hL (dL hhi hW.size) Z.out);have S:=za (fun (g0 D c0:Nat) (T:List Nat) W (hW:Ext w W) (ho:W.ownsRow D 3 1 (.slice (some g0) N c0) N (zae T))=>spec_l9Bad (A:=A) (n:=n) (c:=c) (d:=d) (d':=d') (L:=L) (s:=s) (hP.ext hW) hp Z.out ho);have HM:=za (fun (l g0 D c0:Nat) (T:List Nat) (Q:Nat->Nat->Prop) W (hW:Ext w W) (M:l<6) (ho:W.ownsRow D 3 1 (.slice (some g0) N c0) N (zae T)) (y:zeD T N Q)=>spec_l9Move (c:=c) (d:=d) (d':=d') (L:=L) (hS.ext hW) (hP.ext hW) hv hp hL (dL hhi hW.size) Z.out M ho y);have a:Ext w (w.alloc (.cells #[s.al,s.st,.slice A n c,p.al,.slice B m d,.slice B' m' d',L] 70)):=(dB _).alloc _;have b1:=dX w 70 #[s.al,s.st,.slice A n c,p.al,.slice B m d,.slice B' m' d',L];clear hS hP;cases hin:inB t L
 ·have x:=za hin;have u:=za (show zA s p L t=false by rw [eM];intro h;have:=(zgX.1 h).1;rw [hin] at this;cases this);clear hin
  go_enter Tryz.func62,Tryz.ntmps62
  go_upto_region 1 with fail
  generalize w.alloc _=w1 at *;have CB:=b1.cells;have af:=dB w1;go_wp2_with (first
   |(go_at_call 145;refine (HV.out _ a).mono (mQ fun w2 q=>?_))
   |(go_at_call 146;refine (zah ht oM).mono ?_;rw [x.out];rintro e w3 ⟨rfl,rfl⟩))
  go_ret;exact⟨zj (by rw [u.out]),a.trans q⟩
 ·have x:=za hin;have Y:=za (fun k hk=>zaU (zaQ hin) (k:=k) hk);clear hin
  go_enter Tryz.func62,Tryz.ntmps62
  go_upto_region 1 with fail
  generalize w.alloc _=w1 at *;have CB:=b1.cells;have af:=dB w1;go_wp2_with (first
   |(go_at_call 145;refine (HV.out _ a).mono (mQ fun w2 q=>?_))
   |(go_at_call 146;refine (zah ht oM).mono ?_;rw [x.out];rintro e w3 ⟨rfl,rfl⟩)
   |(go_at_call 147;refine (V.out _ (a.trans q)).mono ?_;rintro e w4 ⟨T,g,H,rfl,f,y,R⟩;have C:=q.trans R))
  go_loopw [5,6] (fun v iv wr=>∃ (k g D H:Nat) (T:List Nat),iv=.int .i64 k∧k<=t.size∧v=.slice (some g) N H∧wr.ownsRow D 3 1 (.slice (some g) N H) N (zae T)∧Hid (zeD T N (PR s p L ((wl t).take k)))∧Hid (∀ j,j<k->¬ Bad s p L ((wl t).take j))∧Ext w1 wr) (fun _ iv _=>t.size - (intOf iv).toNat)
  case atStart=>exact⟨0,g,_,H,T,rfl,dG _,rfl,f,za (by simpa using y),za (fun j h=>oM),C⟩
  case round =>
   clear f y q R C;obtain⟨k,g,D,H,T,rfl,hk,rfl,f,y,o,b⟩:=hrel
   by_cases hlt:k<t.size
   ·have aj:(k:Int)<(t.size:Int):=oM;obtain⟨l,M⟩:∃ l:Nat,Hid ((t[k].toNat:Int) - 97=l):=⟨t[k].toNat - 97,by unfold Hid;have:=Y.out k hlt;omega⟩;have ab:l<6:=by have:=M.out;have:=Y.out k hlt;omega
    have ae:=za (show (wl t).take (k+1)=(wl t).take k++[l] by rw [dO,zex hlt,eD,show t[k].toNat - 97=l by have:=M.out;have:=Y.out k hlt;omega]);cases hbad:badT p T N
    ·have i:=za hbad;have ad:=za (show ¬ Bad s p L ((wl t).take k) by rw [← zin y.out,hbad];decide);clear hbad;go_wp2_with (first|(go_at_call 148;refine (S.out _ _ _ _ _ (a.trans b) f).mono ?_;rw [i.out];rintro e w5 ⟨rfl,z⟩;have r:=b.trans z))
     have I:=za (fun W (hW:Ext wr W)=>HM.out l g D H T _ W ((a.trans b).trans hW) ab (zh f hW) y.out);have U:=fun W (hW:Ext wr W)=>CB W (b.trans hW)
     go_region_held3 (fun W=>Ext wr W) (first|assumption|(refine eV ?_;assumption)|(refine eJ ?_ aM;assumption)|(refine eJ ?_ aM;refine eV ?_;assumption)) (first
      |(go_at_call 144;refine (zbj t k hlt _).mono ?_;rw [M.out];rintro e w6 ⟨rfl,rfl⟩)
      |(go_at_call 149;refine (I.out _ ?_).mono ?_;(first|assumption|(refine eV ?_;assumption));rintro e w7 ⟨T7,g7,c7,rfl,F,E,ar⟩))
     have O:Ext w1 w7:=b.trans aM;rw [← PR_snoc,← ae.out] at E;have X:=za E;clear E I U;go_wp2_with fail
     go_roundw
     case rel=>exact⟨k+1,g7,_,c7,T7,gM,oM,rfl,F,X,za (fun j hj=>by
      rcases eF (eQ hj) with h1|rfl
      ·exact o.out j h1
      ·exact ad.out),O⟩
     case measure=>simp [intOf];omega
    ·have i:=za hbad;have u:=za (show zA s p L t=false by
      rw [eM];intro h;exact (zgX.1 h).2 k (by rw [zey];omega) ((zin y.out).1 hbad))
     clear hbad;go_wp2_with (first
      |(go_at_call 148;with_reducible refine (S.out _ _ _ _ _ (a.trans b) f).mono ?_;rw [i.out];rintro e w5 ⟨rfl,z⟩;have r:=b.trans z)
      |(go_at_call 148;refine (S.out _ _ _ _ _ (a.trans r) (zh f z)).mono ?_;rw [i.out];rintro e w6 ⟨rfl,G⟩))
     go_ret;exact⟨zj (by rw [u.out]),a.trans (r.trans G)⟩
   ·have J:k=t.size:=oM;have aq:(t.size:Int)<=(k:Int):=oM;have u:=za (show zA s p L t=!badT p T N by
     rw [Bool.eq_iff_iff,zgX,gG,← Bool.not_eq_true,zin y.out];constructor
     ·intro h;exact h.2 k (by rw [zey];omega)
     ·intro h;refine⟨x.out,fun j hj=>?_⟩;rw [zey] at hj;rcases eF hj with h1|rfl
      ·exact o.out j oM
      ·rw [J] at h;exact h)
    clear J hlt hk;go_wp2_with (first
     |(go_at_call 148;refine (S.out _ _ _ _ _ (a.trans b) f).mono (mQ fun w6 G=>?_)))
    go_ret;exact⟨zj (by rw [u.out]),a.trans (b.trans G)⟩
end
structure Tch (w:World) (A:Option Addr) (n:Nat) (B:Option Addr) (m:Nat) (B':Option Addr) (m':Nat) (s:Sys) (p:Aut) (L:Nat):Prop where
 at_:∃ lo hi,zO w lo hi A n s∧zH w lo hi B m B' m' p∧hi<=w.heap.size
 sv:zk s=true
 pv:zi p=true
 lt:L<64
section
variable {w W:World} {n c m d m' d' L:Nat} {A B B':Option Addr} {s:Sys} {p:Aut}
theorem Tch.ext (h:Tch w A n B m B' m' s p L)(hx:Ext w W):Tch W A n B m B' m' s p L:=by
 obtain⟨c,b,h1,h2,a⟩:=h.at_;exact⟨⟨c,b,h1.ext hx,h2.ext hx,dL a hx.size⟩,h.sv,h.pv,h.lt⟩
theorem zaR (h:Tch w A n B m B' m' s p L) :
  Calls Tryz.prog 133 #[.agg #[.bool false,(0:Int),(),(),s.al,s.st,.slice A n c,p.al,.slice B m d,.slice B' m' d',L]] w fun e w'=>e=.returned (.int .i64 (L:Nat))∧Ext w w':=by
 obtain⟨o,l,h1,h2,k⟩:=h.at_;have f:=za (fun W (hW:Ext w W)=>zet (c:=c) (d:=d) (d':=d') (L:=L) (h1.ext hW) (h2.ext hW) h.sv h.pv h.lt);clear h h1 h2
 go_enter Tryz.func133,Tryz.ntmps133
 go_upto_region 1 with fail
 generalize U0:w.alloc _=w1 at *;obtain⟨a,g⟩:=fY U0;clear U0;have j:=g.cells;have i:=dB w1;go_wp2_with (first
  |(go_at_call 145;refine (f.out _ a).mono (mQ fun q b=>?_)))
 go_ret;exact⟨rfl,a.trans b⟩
theorem zdM (h:Tch w A n B m B' m' s p L)(ht:t.size<=9223372036854775807) :
  Calls Tryz.prog 214 #[.agg #[.bool false,(0:Int),(),(),s.al,s.st,.slice A n c,p.al,.slice B m d,.slice B' m' d',L],t] w fun e w'=>e=.returned (.bool (zA s p L t))∧Ext w w':=by
 obtain⟨o,l,h1,h2,i⟩:=h.at_;have f:=za (fun W (hW:Ext w W)=>zfw (c:=c) (d:=d) (d':=d') (L:=L) (t:=t) (h1.ext hW) (h2.ext hW) h.sv h.pv h.lt (dL i hW.size) ht);clear h h1 h2
 go_enter Tryz.func214,Tryz.ntmps214
 go_upto_region 1 with fail
 generalize U0:w.alloc _=w1 at *;obtain⟨a,g⟩:=fY U0;clear U0;have k:=g.cells;have j:=dB w1;go_wp2_with (first
  |(go_at_call 62;refine (f.out _ a).mono (mQ fun q b=>?_)))
 go_ret;exact⟨rfl,a.trans b⟩
end
theorem str_loop (b:ByteArray):∀ (k:Nat) (i:Nat) (r:List UInt8),b.size - i=k->ByteArray.toList.loop b i r=r.reverse++b.data.toList.drop i:=by
 intro k
 induction k with
 |zero =>
  intro i r h;unfold ByteArray.toList.loop;rw [if_neg oM,List.drop_of_length_le (by rw [Array.length_toList];show b.size<=i;omega),gY]
 |succ k ih =>
  intro i r h;have a:i<b.size:=oM;unfold ByteArray.toList.loop;rw [if_pos a,ih (i+1) _ oM,fN (i:=i) (by rw [Array.length_toList];exact a),List.reverse_cons,gW];have e:b.get! i=b.data.toList[i]'(by rw [Array.length_toList];exact a):=by
   rw [Array.getElem_toList];show b.data[i]! = _;exact getElem!_pos b.data i a
  rw [e];rfl
theorem str_data (b:ByteArray):b.toList=b.data.toList:=by
 unfold ByteArray.toList;rw [str_loop b _ 0 [] rfl];rfl
theorem str_ext (h:x.toList=y.toList):x=y:=by
 rw [str_data,str_data] at h;cases x;cases y
 congr 1
 exact Array.toList_inj.1 h
theorem str_ne (h:¬ x=y):(x.toList==y.toList)=false:=by
 rw [beq_eq_false_iff_ne];exact fun e=>h (str_ext e)
noncomputable def zgU (l:List ByteArray) (x:ByteArray):Bool:=by classical exact decide (x∈l)
theorem zdX {l:List ByteArray} :zgU l x=true↔x∈l:=by unfold zgU;simp
theorem zcw {l:List ByteArray} :zgU l x=false↔x∉l:=by rw [← Bool.not_eq_true,zdX]
theorem zdg {c:Nat}  {l:List ByteArray} (h:Reads w lo hi 1 A n (zaa l)) :
  Calls Tryz.prog 228 #[.slice A n c,x] w fun e w'=>e=.returned (.bool (zgU l x))∧w=w':=by
 have s:=h.len;have g:l.length=n:=by have:=h.length;rw [zbH] at this;omega
 have p:=za g;clear g
 go_enter Tryz.func228,Tryz.ntmps228
 go_wp2_with fail
 go_loop [5] (fun iv=>∃ i:Nat,iv=.int .i64 i∧i<=n∧Hid (∀ j,j<i->l[j]?≠some x)) (fun iv=>n - (intOf iv).toNat)
 case atStart=>exact⟨0,rfl,dG _,za (fun j h=>oM)⟩
 case round =>
  obtain⟨i,rfl,hi,a⟩:=hrel
  by_cases hlt:i<n
  ·have k:(i:Int)<(n:Int):=oM;obtain⟨q,y,rfl,_,_,m,r⟩:=h.str hlt
   by_cases he:y=x
   ·subst he;have d:=za (zdX.2 (dC m.out));go_wp2_with fail
    go_ret;exact⟨zj (by rw [d.out]),rfl⟩
   ·have o:=za he;have f:=str_ne he;clear he;go_wp2_with fail
    go_round
    case rel=>exact⟨i+1,gM,oM,za (fun j b=>by
     rcases eF (eQ b) with h1|rfl
     ·exact a.out j h1
     ·rw [m.out];intro h;exact o.out (Option.some.inj h))⟩
    case measure=>simp [intOf];omega
  ·obtain rfl:i=n:=oM;have d:=za (show zgU l x=false by
    rw [zcw];intro hx;obtain⟨j,b⟩:=eB hx;exact a.out j (by have:=(List.getElem?_eq_some_iff.1 b).1;have:=p.out;omega) b)
   go_wp2_with fail
   go_ret;exact⟨zj (by rw [d.out]),rfl⟩
def zdD (f:ByteArray->Bool) (cols:List ByteArray) (x:ByteArray):List Bool:=cols.map fun c=>f (x++c)
def mkB (b:Bool):ByteArray:=if b then ⟨#[43]⟩ else ⟨#[45]⟩
def mkS (bs:List Bool):ByteArray:=bs.foldl (fun o b=>o++mkB b) ByteArray.empty
theorem mkS_snoc (bs:List Bool) (b:Bool):mkS (bs++[b])=mkS bs++mkB b:=by simp [mkS]
theorem zgw:∀ (bs:List Bool),(mkS bs).data.toList=bs.map fun b=>if b then 43 else 45:=by
 have a:∀ (bs:List Bool) (o:ByteArray),(bs.foldl (fun o b=>o++mkB b) o).data.toList=o.data.toList++bs.map fun b=>if b then 43 else 45:=by
  intro bs
  induction bs with
  |nil=>intro o;simp
  |cons b r ih =>
   intro o;rw [List.foldl_cons,ih,ByteArray.data_append,Array.toList_append,gW,eY];cases b<;>rfl
 intro bs;unfold mkS;rw [a];rfl
theorem map_inj' {α β:Type} {f:α->β}(hf:∀ x y,f x=f y->x=y):∀ {a b:List α},a.map f=b.map f->a=b
 |[],[],_=>rfl
 |[],_ :: _,h=>by simp at h
 |_ :: _,[],h=>by simp at h
 |x :: a,y :: b,h=>by
  simp only [eY,List.cons.injEq] at h
  rw [hf x y h.1,map_inj' hf h.2]
theorem mkS_inj {a b:List Bool}(h:mkS a=mkS b):a=b:=by
 have h1:(mkS a).data.toList=(mkS b).data.toList:=by rw [h]
 rw [zgw,zgw] at h1;exact map_inj' (fun x y=>by cases x<;>cases y<;>simp) h1
theorem mkS_size (bs:List Bool):(mkS bs).size=bs.length:=by
 have h:=congrArg List.length (zgw bs);rw [dQ,Array.length_toList] at h;exact h
section
variable {w W:World} {n c m d m' d' L:Nat} {A B B':Option Addr} {s:Sys} {p:Aut}
theorem zeU (h:Tch w A n B m B' m' s p L)(hC:Reads w lo hi 1 C nc (zaa cols))(hc:nc<=1000)(hx:x.size<=1000000)(hcs:∀ y∈cols,y.size<=1000000) :
  Calls Tryz.prog 137 #[.agg #[.bool false,(0:Int),(),(),s.al,s.st,.slice A n c,p.al,.slice B m d,.slice B' m' d',L],.slice C nc cc,x] w fun e w'=>e=.returned (.string (mkS (zdD (zA s p L) cols x)))∧Ext w w':=by
 have D:cols.length=nc:=by have:=hC.length;rw [zbH] at this;omega
 have M:=za (fun W (hW:Ext w W) (y:ByteArray) l=>zdM (c:=c) (d:=d) (d':=d') (t:=y) (h.ext hW) l);have J:=za (fun W (hW:Ext w W)=>hC.ext hW);have O:=za D;have q:=za hcs;clear h hC D hcs
 go_enter Tryz.func137,Tryz.ntmps137
 go_upto_region 1 with fail
 generalize U0:w.alloc _=w1 at *;obtain⟨f,R⟩:=fY U0;clear U0;have H:=R.cells;go_wp2_with fail
 go_loopw [7,8] (fun v iv wr=>∃ (k:Nat) (o:ByteArray),iv=.int .i64 k∧k<=nc∧v=.string o∧o.size<=k∧Hid (o=mkS (zdD (zA s p L) (cols.take k) x))∧Ext w1 wr) (fun _ iv _=>nc - (intOf iv).toNat)
 case atStart=>exact⟨0,_,rfl,dG _,rfl,dM,za rfl,dB _⟩
 case round =>
  obtain⟨k,o,rfl,hk,rfl,S,F,a⟩:=hrel
  by_cases hlt:k<nc
  ·have E:(k:Int)<(nc:Int):=oM;obtain⟨Q,y,rfl,_,_,l,z⟩:=(J.out wr (f.trans a)).str hlt;have X:=q.out y (dC l.out);have Z:∀ W,Ext wr W->W.cell? (Q.add k)=some (.string y):=fun W hW=>hW.aa z;have I:=fun W (hW:Ext wr W)=>H W (a.trans hW);have T:¬ 9223372036854775807<x.size+y.size:=oM;have G:¬ 9223372036854775807<o.size+1:=oM;have b:(x++y).size<=9223372036854775807:=by rw [ByteArray.size_append];omega
   have g:=za (fun W (hW:Ext wr W)=>M.out W ((f.trans a).trans hW) (x++y) b);have U:=dB wr;have i:=za (show mkS (zdD (zA s p L) (cols.take (k+1)) x)=o++mkB (zA s p L (x++y)) by
    rw [dO,l.out,zdD,eK,← zdD,F.out,eD,iS,mkS_snoc])
   obtain⟨bv,r⟩:∃ bv,Hid (zA s p L (x++y)=bv):=⟨_,rfl⟩;rw [r.out] at g i;clear z b;go_wp2_with fail
   go_region_held3 (fun W=>Ext wr W) (first|assumption|(refine eV ?_;assumption)|(refine eJ ?_ aM;assumption)|(refine eJ ?_ aM;refine eV ?_;assumption)) (first
    |(go_at_call 214;refine (g.out _ ?_).mono ?_;(first|assumption|(refine eV ?_;assumption));rintro e Y ⟨rfl,V⟩))
   have j:Ext w1 Y:=a.trans aM;cases bv
   all_goals
    go_wp2_with fail
    go_roundw
    case rel=>exact⟨k+1,_,gM,oM,rfl,by rw [ByteArray.size_append];show o.size+1<=k+1;omega,i.symm,j⟩
    case measure=>simp [intOf];omega
  ·obtain rfl:k=nc:=oM;have u:=za (show mkS (zdD (zA s p L) cols x)=o by rw [F.out,dK (oH O.out)]);go_wp2_with fail
   go_ret;exact⟨by rw [u.out];rfl,f.trans a⟩
end
def RetStrL (w:World) (l:List ByteArray) (e:Ending) (w':World):Prop:=
 ∃ A c,e=.returned (.slice A l.length c)∧w'.ownsRow w.heap.size 9 1 (.slice A l.length c) l.length (zaa l)∧Ext w w'
def zbR (f:ByteArray->Bool) (cols words:List ByteArray):List ByteArray:=words.map fun x=>mkS (zdD f cols x)
theorem strs_snoc (l:List ByteArray) (x:ByteArray):zaa (l++[x])=zaa l++[.string x]:=by simp [zaa]
section
variable {w W:World} {n c m d m' d' L:Nat} {A B B':Option Addr} {s:Sys} {p:Aut}
theorem zdO {nr cr lo2 hi2:Nat} (h:Tch w A n B m B' m' s p L)(hC:Reads w lo hi 1 C nc (zaa cols))(hR:Reads w lo2 hi2 1 R nr (zaa rows))(hc:nc<=1000)(hr:nr<=1000)(hcs:∀ y∈cols,y.size<=1000000)(hrs:∀ y∈rows,y.size<=1000000) :
  Calls Tryz.prog 135 #[.agg #[.bool false,(0:Int),(),(),s.al,s.st,.slice A n c,p.al,.slice B m d,.slice B' m' d',L],.slice C nc cc,.slice R nr cr] w (RetStrL w (zbR (zA s p L) cols rows)):=by
 have H:rows.length=nr:=by have:=hR.length;rw [zbH] at this;omega
 have T:=za (fun W (hW:Ext w W) (y:ByteArray) l=>zeU (c:=c) (d:=d) (d':=d') (cc:=cc) (x:=y) (h.ext hW) (hC.ext hW) hc l hcs);have S:=za (fun W (hW:Ext w W)=>hR.ext hW);have E:=za H;have q:=za hrs;clear h hC hR H hrs hcs
 go_enter Tryz.func135,Tryz.ntmps135
 go_upto_region 1 with fail
 generalize U0:w.alloc _=w1 at *;obtain⟨g,V⟩:=fY U0;clear U0;have O:=V.cells;go_wp2_with fail
 go_loopw [7,8] (fun v iv wr=>∃ k:Nat,iv=.int .i64 k∧k<=nr∧wr.ownsRow w1.heap.size 9 1 v k (zaa (zbR (zA s p L) cols (rows.take k)))∧Ext w1 wr) (fun _ iv _=>nr - (intOf iv).toNat)
 case atStart=>exact⟨0,rfl,dG _,World.ownsRow_lit w1 #[] 0 (dE _) lM rfl,(dB _).alloc _⟩
 case round =>
  obtain⟨k,rfl,G,f,b⟩:=hrel
  by_cases hlt:k<nr
  ·have I:(k:Int)<(nr:Int):=oM;obtain⟨U,y,rfl,_,_,l,F⟩:=(S.out wr (g.trans b)).str hlt;have u:=q.out y (dC l.out);have Z:∀ W,Ext wr W->W.cell? (U.add k)=some (.string y):=fun W hW=>hW.aa F;have Q:=fun W (hW:Ext wr W)=>O W (b.trans hW);have o:=za (fun W (hW:Ext wr W)=>T.out W ((g.trans b).trans hW) y u);have j:=dB wr;have r:=za (show zaa (zbR (zA s p L) cols (rows.take (k+1)))=zaa (zbR (zA s p L) cols (rows.take k))++[.string (mkS (zdD (zA s p L) cols y))] by
    rw [dO,l.out,zbR,eK,← zbR,eD,iS,strs_snoc])
   generalize mkS (zdD (zA s p L) cols y)=z at *;clear F;go_wp2_with fail
   refine uR (fun X=>Ext wr X) [9] (zw.of [0,1,2,3,4,5,6,7,8,9,10]) ?_;refine uQ ?_;refine zd fun K hK=>?_;go_simp;refine (o.out _ j.drew).mono (mQ fun J t=>?_);have a:Ext wr J:=j.drew.trans t;refine hK.out _ _ a ?_;refine pT ?_;refine uQ ?_;refine zd fun K hK=>?_;go_simp;refine hK.out _ _ (a.alloc _) ?_;refine pT ?_;refine zb fun K hK=>?_;refine zaE w1 J _ _ _ rfl 9 _ 1 16 Tryz.underlying88 zo rfl dM _ k (zaa (zbR (zA s p L) cols (rows.take k))) _ _ rfl rfl (b.trans a).size (zh f a) rfl (zck _) lM oM ?_;intro g8 cap8 w8 hown8 hg8 hat8 hlt8;refine hK.out _ _ ?_;refine pT ?_;refine uQ ?_;refine ze ?_;go_wp2_with fail
   go_roundw
   case rel=>exact⟨k+1,gM,oM,by rw [r.out];exact hown8,(b.trans a).grown hg8 (fun k G=>(f.lt k G).1)⟩
   case measure=>simp [intOf];omega
  ·obtain rfl:k=nr:=oM;obtain⟨M,Y,rfl⟩:=zg f;have D:=za (show (rows.take k)=rows from dK (oH E.out));rw [D.out] at f;have i:=za (show (zbR (zA s p L) cols rows).length=k by rw [zbR,dQ];exact E.out);go_wp2_with fail
   go_ret;exact⟨M,Y,by rw [i.out];rfl,by rw [i.out];exact zn f g.size,g.trans b⟩
theorem zfW (h:Tch w A n B m B' m' s p L)(hx:x.size<=9223372036854775807) :
  Calls Tryz.prog 226 #[.agg #[.bool false,(0:Int),(),(),s.al,s.st,.slice A n c,p.al,.slice B m d,.slice B' m' d',L],x] w fun e w'=>e=.returned (.bool (inB x L&&decide (x.size<=4000)))∧Ext w w':=by
 have g:=za (fun W (hW:Ext w W)=>zaR (c:=c) (d:=d) (d':=d') (h.ext hW));have l:=h.lt;have a:Ext w (w.alloc (.cells #[.bool false,(0:Int),(),(),s.al,s.st,.slice A n c,p.al,.slice B m d,.slice B' m' d',L] 87)):=(dB _).alloc _;have i:=dX w 87 #[.bool false,(0:Int),(),(),s.al,s.st,.slice A n c,p.al,.slice B m d,.slice B' m' d',L];clear h;cases hin:inB x L
 all_goals
  have b:=za hin;clear hin
  go_enter Tryz.func226,Tryz.ntmps226
  go_upto_region 1 with fail
  generalize w.alloc _=w1 at *;have k:=i.cells;have j:=dB w1;go_wp2_with (first
   |(go_at_call 133;refine (g.out _ a).mono (mQ fun o f=>?_))
   |(go_at_call 146;refine (zah hx oM).mono ?_;rw [b.out];rintro e q ⟨rfl,rfl⟩))
  go_ret;exact⟨zj (by first|rfl|(rw [Bool.true_and,decide_eq_decide];omega)),a.trans f⟩
end
def zeX (l:Nat):ByteArray:=strOfNums [((97+l:Nat):Int)]
theorem zdI (l:Nat):(zeX l).size=1:=strOfNums_size _
structure zdC (L:Nat) (f:ByteArray->Bool) (rows cols:List ByteArray):Prop where
 r1:1<=rows.length
 r12:rows.length<=12
 c1:1<=cols.length
 c20:cols.length<=20
 r0:rows[0]?=some ⟨#[]⟩
 c0:cols[0]?=some ⟨#[]⟩
 rw_:∀ (i:Nat) (x:ByteArray),1<=i->rows[i]?=some x->inB x L=true∧∃ y l,l<6∧x=y++zeX l∧y∈rows.take i
 cw:∀ (i:Nat) (x:ByteArray),1<=i->cols[i]?=some x->inB x L=true∧x.size<=4000∧x∉cols.take i
 nd:(rows.map (zdD f cols)).Nodup
section
variable {L:Nat} {f:ByteArray->Bool} {rows cols:List ByteArray}
theorem inB_empty (L:Nat):inB ⟨#[]⟩ L=true:=by unfold inB zdK;rfl
theorem zdC.rsz (h:zdC L f rows cols):∀ (i:Nat) (x:ByteArray),rows[i]?=some x->x.size<=i:=by
 intro i
 induction i using Nat.strongRecOn with
 |ind i ih =>
  intro x hx;rcases gO i with rfl|c
  ·rw [h.r0] at hx;obtain rfl:=Option.some.inj hx;exact dE _
  ·obtain⟨-,y,l,g,rfl,d⟩:=h.rw_ i x c hx;obtain⟨j,b⟩:=eB d;have a:j<i:=by have:=(List.getElem?_eq_some_iff.1 b).1;rw [eT] at this;omega
   rw [jI a] at b;have:=ih j a y b;rw [ByteArray.size_append,zdI l];omega
theorem zdC.rin (h:zdC L f rows cols) (hx:x∈rows):inB x L=true∧x.size<=12:=by
 obtain⟨i,a⟩:=eB hx;have c:=(List.getElem?_eq_some_iff.1 a).1;refine⟨?_,by have:=h.rsz i x a;have:=h.r12;omega⟩;rcases gO i with rfl|b
 ·rw [h.r0] at a;obtain rfl:=Option.some.inj a;exact inB_empty L
 ·exact (h.rw_ i x b a).1
theorem zdC.cin (h:zdC L f rows cols) (hx:x∈cols):inB x L=true∧x.size<=4000:=by
 obtain⟨i,a⟩:=eB hx;rcases gO i with rfl|b
 ·rw [h.c0] at a;obtain rfl:=Option.some.inj a;exact⟨inB_empty L,dM⟩
 ·exact⟨(h.cw i x b a).1,(h.cw i x b a).2.1⟩
theorem rowsM_nodup (h:zdC L f rows cols):(zbR f cols rows).Nodup:=by
 have h1:=h.nd;unfold zbR;have h2:rows.map (fun x=>mkS (zdD f cols x))=(rows.map (zdD f cols)).map mkS:=by rw [List.map_map];rfl
 rw [h2];exact List.pairwise_map.2 (h1.imp fun hne e=>hne (mkS_inj e))
end
def TabAt (w:World) (R:Option Addr) (nr:Nat) (C:Option Addr) (nc:Nat) (rows cols:List ByteArray):Prop:=
 ∃ lo hi lo2 hi2,Reads w lo hi 1 R nr (zaa rows)∧Reads w lo2 hi2 1 C nc (zaa cols)
theorem TabAt.ext {W:World}  {nr:Nat} (h:TabAt w R nr C nc rows cols)(hx:Ext w W):TabAt W R nr C nc rows cols:=by
 obtain⟨d,c,b,a,h1,h2⟩:=h;exact⟨d,c,b,a,h1.ext hx,h2.ext hx⟩
theorem TabAt.nr {nr:Nat} (h:TabAt w R nr C nc rows cols):rows.length=nr∧cols.length=nc:=by
 obtain⟨g,f,d,c,h1,h2⟩:=h;have a:=h1.length;have b:=h2.length;rw [zbH] at a b;omega
theorem Reads.takeS {l:List ByteArray}(h:Reads w lo hi 1 A n (zaa l))(hk:k<=n):Reads w lo hi 1 A k (zaa (l.take k)):=by
 have d:=h.length;rw [zbH] at d;refine⟨by rw [zbH,eT];omega,oH h.len,fun h0=>?_⟩;obtain⟨a,e,h1,h2,b⟩:=h.2.2 oM;refine⟨a,e,h1,h2,fun j u hu=>b j u ?_⟩;unfold zaa at hu ⊢;rw [List.map_take] at hu;have c:j<k:=by have:=(List.getElem?_eq_some_iff.1 hu).1;rw [eT] at this;omega
 rwa [jI c] at hu
theorem str_front (y:ByteArray) (l:Nat):(y++zeX l).extract 0 y.size=y:=by
 rw [ByteArray.extract_append_eq_left rfl]
section
variable {w W:World} {L nr nc cr cc:Nat} {R C:Option Addr} {rows cols:List ByteArray} {f:ByteArray->Bool}
theorem ziO (hT:TabAt w R nr C nc rows cols)(hI:zdC L f rows cols)(hL:L<64)(hcr:nr<=cr)(hcc:nc<=cc) :
  Calls Tryz.prog 274 #[L,.agg #[.slice R nr cr,.slice C nc cc]] w fun e w'=>e=.returned (.bool true)∧Ext w w':=by
 obtain⟨T,U⟩:=hT.nr;have z:=hI.r1;have B:=hI.r12;have r:=hI.c1;have s:=hI.c20;rw [T] at z B;rw [U] at r s;obtain⟨lo,hi,ao,ag,h1,h2⟩:=hT;obtain⟨H,x,rfl,_,_,j,d⟩:=h1.str (show 0<nr by omega);obtain⟨J,y,rfl,_,_,D,p⟩:=h2.str (show 0<nc by omega);obtain rfl:=Option.some.inj (j.out.symm.trans hI.r0);obtain rfl:=Option.some.inj (D.out.symm.trans hI.c0);rw [addr_zero] at d p;have Q:=za (fun W (hW:Ext w W)=>h1.ext hW);have S:=za (fun W (hW:Ext w W)=>h2.ext hW);have G:=za hI;have CX:=fun W (hW:Ext w W)=>hW.aa d;have CY:=fun W (hW:Ext w W)=>hW.aa p;clear h1 h2 hI j D d p T U
 go_enter Tryz.func274,Tryz.ntmps274
 go_upto_region 1 with fail
 generalize U0:w.alloc _=w1 at *;obtain⟨c,I⟩:=fY U0;clear U0;have k1:=I.cell;have d:=CX _ c;have p:=CY _ c;have b:=dB w1;go_wp2_with fail
 go_loopw [7] (fun iv wr=>∃ k:Nat,1<=k∧k<=nr∧iv=.int .i64 k∧Ext w1 wr) (fun iv _=>nr - (intOf iv).toNat)
 case atStart=>exact⟨1,dE _,z,rfl,b⟩
 case round =>
  clear b k1 d p;obtain⟨k,i,E,rfl,a⟩:=hrel
  by_cases hlt:k<nr
  ·have u:(k:Int)<(nr:Int):=oM;have M:(k:Int)<=(cr:Int):=oM;obtain⟨ae,x,e,_,_,j,d⟩:=(Q.out wr (c.trans a)).str hlt;obtain rfl:=Option.some.inj e;obtain⟨g,y,l,hl,o,D⟩:=G.out.rw_ k x i j.out;have O:x.size=y.size+1:=by rw [o,ByteArray.size_append,zdI]
   have ak:x.extract 0 y.size=y:=by rw [o,str_front]
   have h0:0<x.size:=oM;have al:y.size<=12:=by have:=G.out.rsz k x j.out;omega
   have h:=za (zdX.2 D);have m:=za (fun W (hW:Ext w W)=>(Q.out W hW).takeS E);have n:=za g;have F:∀ W,Ext wr W->W.cell? (H.add k)=some (.string x):=fun W hW=>hW.aa d;have Z:∀ W,Ext wr W->∀ q,W.cell? ⟨w.heap.size,q,none⟩=#[Value.slice (some H) nr cr,.slice (some J) nc cc][q]?:=fun W hW=>(I.ext (a.trans hW)).cell;have b:=dB wr;have aj:IntKind.i64.wrap (y.size:Int)=(y.size:Int):=IntWalk.i64_in _ oM;have ai:((y.size:Int)+1==0)=false:=by simp;omega
   have am:(y.size:Int)<=(y.size:Int)+1:=oM;clear g D o d j hl e;go_wp2_with fail
   refine uR (fun X=>Ext wr X) [] (zw.of [0,1,2,3,4,5,6,7,8,9,10,11,12,13,14,15,16,17,18,19,20,21]) ?_;refine uQ ?_;refine zd fun K hK=>?_;go_simp;refine (zah oM oM).mono ?_;rw [n.out];rintro e Y ⟨rfl,rfl⟩;refine hK.out _ _ b.drew ?_;refine pT ?_;refine uQ ?_;refine zd fun K hK=>?_;go_simp;refine (zdg (m.out _ (c.trans (a.trans b.drew)))).mono ?_;rw [h.out];rintro e w4 ⟨rfl,rfl⟩;refine hK.out _ _ b.drew ?_;refine pT ?_;refine uQ ?_;refine ze ?_;go_wp2_with fail
   go_roundw
   case rel=>exact⟨k+1,oM,oM,gM,a.trans b.drew⟩
   case measure=>simp [intOf];omega
  ·have t:(nr:Int)<=(k:Int):=oM;go_wp2_with fail
   go_loopw [9] (fun iv wr=>∃ k:Nat,1<=k∧k<=nc∧iv=.int .i64 k∧Ext w1 wr) (fun iv _=>nc - (intOf iv).toNat)
   case atStart=>exact⟨1,dE _,r,rfl,a⟩
   case round =>
    clear a t hlt E i;obtain⟨k,i,E,rfl,a⟩:=hrel
    by_cases hlt:k<nc
    ·have u:(k:Int)<(nc:Int):=oM;have M:(k:Int)<=(cc:Int):=oM;obtain⟨af,x,e,_,_,j,d⟩:=(S.out wr (c.trans a)).str hlt;obtain rfl:=Option.some.inj e;obtain⟨g,O,v⟩:=G.out.cw k x i j.out;have V:¬ (4000<(x.size:Int)):=oM;have h:=za (zcw.2 v);have m:=za (fun W (hW:Ext w W)=>(S.out W hW).takeS E);have n:=za g;have F:∀ W,Ext wr W->W.cell? (J.add k)=some (.string x):=fun W hW=>hW.aa d;have Z:∀ W,Ext wr W->∀ q,W.cell? ⟨w.heap.size,q,none⟩=#[Value.slice (some H) nr cr,.slice (some J) nc cc][q]?:=fun W hW=>(I.ext (a.trans hW)).cell;have b:=dB wr;clear g v d j e;go_wp2_with (first
      |(go_at_call 146;refine (zah oM oM).mono ?_;rw [n.out];rintro e Y ⟨rfl,rfl⟩)
      |(go_at_call 228;refine (zdg (m.out _ (c.trans a))).mono ?_;rw [h.out];rintro e Y ⟨rfl,rfl⟩))
     go_roundw
     case rel=>exact⟨k+1,oM,oM,gM,a⟩
     case measure=>simp [intOf];omega
    ·have t:(nc:Int)<=(k:Int):=oM;go_wp2_with fail
     go_ret;exact⟨rfl,c.trans a⟩
end
theorem zdC.rsz' (h:zdC L f rows cols):(∀ y∈rows,y.size<=1000000)∧∀ y∈cols,y.size<=1000000:=
 ⟨fun y hy=>by have:=(h.rin hy).2;omega,fun y hy=>by have:=(h.cin hy).2;omega⟩
section
variable {w W:World} {n c m d m' d' L:Nat} {A B B':Option Addr} {s:Sys} {p:Aut} {nr nc cr cc:Nat} {R C:Option Addr} {rows cols:List ByteArray}
theorem zbS (h:Tch w A n B m B' m' s p L)(hT:TabAt w R nr C nc rows cols)(hI:zdC L (zA s p L) rows cols)(hcr:nr<=cr)(hcc:nc<=cc) :
  Calls Tryz.prog 211 #[.agg #[.bool false,(0:Int),(),(),s.al,s.st,.slice A n c,p.al,.slice B m d,.slice B' m' d',L],.agg #[.slice R nr cr,.slice C nc cc]] w fun e w'=>e=.returned (.bool true)∧Ext w w':=by
 obtain⟨M,V⟩:=hT.nr;have z:=hI.r12;have v:=hI.c20;rw [M] at z;rw [V] at v;have HA:=za (fun W (hW:Ext w W)=>zaR (c:=c) (d:=d) (d':=d') (h.ext hW));have HS:=za (fun W (hW:Ext w W)=>ziO (cr:=cr) (cc:=cc) (hT.ext hW) hI h.lt hcr hcc);obtain⟨lo,hi,ar,an,h1,h2⟩:=hT;have HR:=za (fun W (hW:Ext w W)=>zdO (c:=c) (d:=d) (d':=d') (cc:=cc) (cr:=cr) (h.ext hW) (h2.ext hW) (h1.ext hW) oM oM hI.rsz'.2 hI.rsz'.1);have S:=za (rowsM_nodup hI);have l:(zbR (zA s p L) cols rows).length=nr:=by rw [zbR,dQ];exact M
 generalize zbR (zA s p L) cols rows=zs at *;clear h h1 h2 hI M V
 go_enter Tryz.func211,Tryz.ntmps211
 go_upto_region 1 with fail
 generalize U0:(w.alloc _).alloc _=w1 at *;obtain⟨o,b1,b2⟩:=Ext.x2_ U0;clear U0;have CB:=b1.cells;have CT:=b2.cells;have f:=dB w1;refine uR (fun X=>Ext w1 X) [] (zw.of [0,2,1,3,4]) ?_;refine uQ ?_;refine zd fun K hK=>?_;go_simp;refine (HA.out _ (o.trans f.drew)).mono (mQ fun w2 F=>?_);have a:Ext w1 w2:=f.drew.trans F;refine hK.out _ _ a ?_;refine pT ?_;refine uQ ?_;refine zd fun K hK=>?_;go_simp;refine (HS.out _ (o.trans a)).mono (mQ fun w3 H=>?_);have b:=a.trans H;refine hK.out _ _ b ?_;refine pT ?_;refine uQ ?_;refine ze ?_;clear a F H;go_wp2_with (first|(go_at_call 135;refine (HR.out _ (o.trans b)).mono ?_;rintro e T ⟨G,g,rfl,r,I⟩))
 rw [l] at r;have t:=za l;clear l;have E:=b.trans I;have D:=Reads.af r;have u:=za (fun W (hW:Ext T W)=>D.ext hW);have aq:nr<=g:=by
  rcases r.2 with ⟨e,h0⟩|⟨g0,aj,ak,e,_,_,Y,_⟩
  ·omega
  ·injection e with _ _ h3;omega
 clear b I r D
 go_loopw [6] (fun iv wr=>∃ k:Nat,k<=nr∧iv=.int .i64 k∧Ext T wr) (fun iv _=>nr - (intOf iv).toNat)
 case atStart=>exact⟨0,dG _,rfl,dB _⟩
 case round =>
  obtain⟨k,hk,rfl,q⟩:=hrel
  by_cases hlt:k<nr
  ·have Z:(k:Int)<(nr:Int):=oM;have ap:(k:Int)<=(g:Int):=oM;obtain⟨ad,x,rfl,_,_,hx,U⟩:=(u.out wr q).str hlt;have y:=za (show zgU (zs.take k) x=false by
    rw [zcw];intro hm;obtain⟨j,O⟩:=eB hm;have Q:j<k:=by have:=(List.getElem?_eq_some_iff.1 O).1;rw [eT] at this;omega
    rw [jI Q] at O;have:=(List.getElem?_inj (i:=j) (j:=k) (oH t.out) S.out).1 (O.trans hx.out.symm);omega)
   have J:=za (fun W (hW:Ext T W)=>(u.out W hW).takeS hk);have CX:∀ W,Ext wr W->W.cell? (ad.add k)=some (.string x):=fun W hW=>hW.aa U;have f:=dB wr;clear U hx;go_wp2_with fail
   refine uR (fun X=>Ext wr X) [] (zw.of [0,1,2,3,4,5,6,7]) ?_;refine uQ ?_;refine zd fun K hK=>?_;go_simp;refine (zdg (J.out _ (q.trans f.drew))).mono ?_;rw [y.out];rintro e w5 ⟨rfl,rfl⟩;refine hK.out _ _ f.drew ?_;refine pT ?_;refine uQ ?_;refine ze ?_;go_wp2_with fail
   go_roundw
   case rel=>exact⟨k+1,oM,gM,q.trans f.drew⟩
   case measure=>simp [intOf];omega
  ·have am:(nr:Int)<=(k:Int):=oM;go_wp2_with fail
   go_ret;exact⟨rfl,o.trans (E.trans q)⟩
def candL (L:Nat) (rows:List ByteArray):List ByteArray:=rows.flatMap fun r=>(letters L 6).map fun l=>r++zeX l
noncomputable def zbQ (L:Nat) (f:ByteArray->Bool) (rows cols:List ByteArray):Option ByteArray:=(candL L rows).find? fun x=>!zgU (zbR f cols rows) (mkS (zdD f cols x))
theorem find_pre {α:Type} {P:α->Bool} {pre post l:List α} {x:α}(hl:l=pre++x :: post)(hp:∀ y∈pre,P y=false)(hx:P x=true):l.find? P=some x:=by
 rw [hl,List.find?_append,List.find?_eq_none.2 (fun y hy=>by rw [hp y hy];decide),Option.none_or,List.find?_cons_of_pos hx]
theorem open_find {zs:List ByteArray} {ls:List Nat}  {i:Nat} (hx:rows[i]?=some x)(hl:ls[k]?=some l)(hy:x++zeX l=y)
  (hd:∀ y∈(rows.take i).flatMap (fun r=>ls.map fun l=>r++zeX l),zgU zs (mkS (zdD f cols y))=true) (hdk:∀ y∈(ls.take k).map (fun l=>x++zeX l),zgU zs (mkS (zdD f cols y))=true) (hm:zgU zs (mkS (zdD f cols y))=false) :
  (rows.flatMap fun r=>ls.map fun l=>r++zeX l).find? (fun x=>!zgU zs (mkS (zdD f cols x)))=some y:=by
 have c:rows=rows.take i++x :: rows.drop (i+1):=by
  obtain⟨h2,a⟩:=List.getElem?_eq_some_iff.1 hx;rw [← a,← fN h2,i7]
 have b:ls=ls.take k++l :: ls.drop (k+1):=by
  obtain⟨h2,a⟩:=List.getElem?_eq_some_iff.1 hl;rw [← a,← fN h2,i7]
 have e:ls.map (fun l=>x++zeX l)=(ls.take k).map (fun l=>x++zeX l)++y :: (ls.drop (k+1)).map (fun l=>x++zeX l):=by
  conv=>lhs;rw [b]
  rw [eK,eY,hy]
 refine find_pre (pre:=(rows.take i).flatMap (fun r=>ls.map fun l=>r++zeX l)++(ls.take k).map (fun l=>x++zeX l)) (post:=(ls.drop (k+1)).map (fun l=>x++zeX l)++(rows.drop (i+1)).flatMap (fun r=>ls.map fun l=>r++zeX l)) ?_ ?_ ?_
 ·conv=>lhs;rw [c]
  rw [List.flatMap_append,List.flatMap_cons,e];simp only [gW,List.cons_append]
 ·intro y' hy';show (!zgU zs (mkS (zdD f cols y')))=false;rcases List.mem_append.1 hy' with h1|h1
  ·rw [hd y' h1,Bool.not_true]
  ·rw [hdk y' h1,Bool.not_true]
 ·show (!zgU zs (mkS (zdD f cols y)))=true;rw [hm,Bool.not_false]
theorem zdP (h1:l<6):Calls Tryz.prog 138 #[l] w fun e w'=>e=.returned (.string (zeX l))∧Ext w w':=zeu h1
theorem zfV (h:Tch w A n B m B' m' s p L)(hT:TabAt w R nr C nc rows cols)(hI:zdC L (zA s p L) rows cols) :
  Calls Tryz.prog 212 #[.agg #[.bool false,(0:Int),(),(),s.al,s.st,.slice A n c,p.al,.slice B m d,.slice B' m' d',L],.agg #[.slice R nr cr,.slice C nc cc]] w fun e w'=>e=.returned (.tuple #[.string ((zbQ L (zA s p L) rows cols).getD ⟨#[]⟩),.bool (zbQ L (zA s p L) rows cols).isSome])∧Ext w w':=by
 obtain⟨e1,e2⟩:=hT.nr;have ag:=hI.r12;have ae:=hI.c20;rw [e1] at ag;rw [e2] at ae;have HA:=za (fun W (hW:Ext w W)=>zaR (c:=c) (d:=d) (d':=d') (h.ext hW));obtain⟨lo,hi,bb,a5,h1,h2⟩:=hT;have HR:=za (fun W (hW:Ext w W)=>zdO (c:=c) (d:=d) (d':=d') (cc:=cc) (cr:=cr) (h.ext hW) (h2.ext hW) (h1.ext hW) oM oM hI.rsz'.2 hI.rsz'.1);have HW:=za (fun W (hW:Ext w W) (y:ByteArray) v=>zeU (c:=c) (d:=d) (d':=d') (cc:=cc) (x:=y) (h.ext hW) (h2.ext hW) oM v hI.rsz'.2);have H1:=za (fun W (hW:Ext w W)=>h1.ext hW);have hL:=h.lt;have aq:=za (fun x U=>hI.rin (x:=x) U);have J:(zbR (zA s p L) cols rows).length=nr:=by rw [zbR,dQ];exact e1
 have af:zbQ L (zA s p L) rows cols=(candL L rows).find? fun x=>!zgU (zbR (zA s p L) cols rows) (mkS (zdD (zA s p L) cols x)):=rfl;generalize zbQ L (zA s p L) rows cols=op at *;generalize zbR (zA s p L) cols rows=zs at *;have ab:=za af;have aG:=za J;have He:=za e1;clear h h1 h2 hI e1 e2 af J
 go_enter Tryz.func212,Tryz.ntmps212
 go_upto_region 1 with fail
 generalize U0:(w.alloc _).alloc _=w1 at *;obtain⟨u,b1,b2⟩:=Ext.x2_ U0;clear U0;have CB:=b1.cells;have CT:=b2.cells;have j:=dB w1;go_wp2_with (first
  |(go_at_call 133;refine (HA.out _ u).mono (mQ fun w2 ah=>?_))
  |(go_at_call 134;refine (zY L tM _).mono ?_;rintro e w3 ⟨HL,hc,rfl,F,ai⟩;have H:=ah.trans ai)
  |(go_at_call 135;refine (HR.out _ (u.trans H)).mono ?_;rintro e w4 ⟨G,g,rfl,E,V⟩;have b:=H.trans V))
 have M:=Reads.af E;have HG:=za (fun W (hW:Ext w4 W)=>M.ext hW);have t:=zh F V;have Z:=za (fun W (hW:Ext w4 W)=>zh t hW);have ax:=za (fun l (Y:l∈letters L 6)=>(zG.1 Y).1);have D:=za (show candL L rows=rows.flatMap fun r=>(letters L 6).map fun l=>r++zeX l from rfl);have a6:(letters L 6).length<=6:=zy L 6;generalize letters L 6=Q at *;clear F t M E ah ai H V j;have j:=dB w4
 go_loopw [8] (fun iv wr=>∃ i:Nat,i<=nr∧iv=.int .i64 i∧Hid (∀ x∈(rows.take i).flatMap (fun r=>Q.map fun l=>r++zeX l),zgU zs (mkS (zdD (zA s p L) cols x))=true)∧Ext w4 wr) (fun iv _=>nr - (intOf iv).toNat)
 case atStart=>exact⟨0,dG _,rfl,za (fun x U=>by simp at U),j⟩
 case round =>
  clear j;obtain⟨i,hi,rfl,o,f⟩:=hrel;have ao:=fun W (hW:Ext wr W)=>CT W (b.trans (f.trans hW));have j:=dB wr
  by_cases hlt:i<nr
  ·have aK:(i:Int)<(nr:Int):=oM;obtain⟨ad,x,rfl,_,_,U,cx⟩:=(H1.out wr (u.trans (b.trans f))).str hlt;have CX:∀ W,Ext wr W->W.cell? (ad.add i)=some (.string x):=fun W hW=>hW.aa cx;have a9:=(aq.out x (dC U.out)).2;have aj:=za U.out;clear cx U;go_wp2_with fail
   obtain⟨wo,az⟩:∃ wo,wo=wr:=⟨_,rfl⟩;subst az
   go_loopw [9] (fun kv wr=>∃ k:Nat,k<=Q.length∧kv=.int .i64 k∧Hid (∀ y∈(Q.take k).map (fun l=>x++zeX l),zgU zs (mkS (zdD (zA s p L) cols y))=true)∧Ext wo wr) (fun kv _=>Q.length - (intOf kv).toNat)
   case atStart=>exact⟨0,dG _,rfl,za (fun y v=>by simp at v),j⟩
   case round =>
    clear j;obtain⟨k,hk,rfl,S,a⟩:=hrel
    by_cases hkl:k<Q.length
    ·have aJ:(k:Int)<(Q.length:Int):=oM;obtain⟨l,Y⟩:∃ l,Q[k]?=some l:=⟨_,List.getElem?_eq_getElem hkl⟩;have aw:=ax.out l (dC Y);have X:=Z.out wr (f.trans a);obtain⟨gl,rfl,a3,-⟩:=zag X oM;have cl:=zcB X hkl;rw [dF,Y,Option.getD_some] at cl;have CL:∀ W,Ext wr W->W.cell? ⟨gl,k,none⟩=some (.int .i64 (l:Nat)):=fun W hW=>hW.aa cl;have aS:=fun W (hW:Ext wr W)=>CX W (a.trans hW);have aQ:=fun W (hW:Ext wr W)=>ao W (a.trans hW);have aO:∀ W,Ext wr W->∀ q,W.cell? ⟨w.heap.size,q,none⟩=#[Value.bool false,.int .i64 0,.slice none 0 0,.slice none 0 0,.int .i64 s.al,.int .i64 s.st,.slice A n c,.int .i64 p.al,.slice B m d,.slice B' m' d',.int .i64 L][q]?:=fun W hW=>CB W ((b.trans (f.trans a)).trans hW);have HT:=za (fun W=>zdP (w:=W) aw);have Hl:=za Y;obtain⟨z,hz⟩:∃ z,Hid (zeX l=z):=⟨_,rfl⟩;rw [hz.out] at HT;have ba:z.size=1:=by rw [← hz.out];exact zdI l
     have a7:¬ 9223372036854775807<x.size+1:=oM;have aa:=za (fun W (hW:Ext wr W)=>HW.out W ((u.trans (b.trans (f.trans a))).trans hW) (x++z) (by rw [ByteArray.size_append];omega));have ap:=za (fun W (hW:Ext wr W)=>HG.out W ((f.trans a).trans hW));have j:=dB wr;obtain⟨y,v⟩:∃ y,x++z=y:=⟨_,rfl⟩;rw [v] at aa;have ak:Hid (x++zeX l=y):=by unfold Hid;rw [hz.out];exact v
     clear Y cl X;go_wp2_with fail
     go_region_held3 (fun W=>Ext wr W) (first|assumption|(refine eV ?_;assumption)|(refine eJ ?_ aM;assumption)|(refine eJ ?_ aM;refine eV ?_;assumption)) (first
      |(go_at_call 138;refine (HT.out _).mono (mQ fun w7 a8=>?_)))
     have O:Ext wr w7:=aM;clear v;cases hm:zgU zs (mkS (zdD (zA s p L) cols y))
     all_goals
      have Hm:=za hm;clear hm;go_wp2_with (first
       |(go_at_call 137;refine (aa.out _ O).mono (mQ fun w8 aA=>?_);have I:=O.trans aA)
       |(go_at_call 228;with_reducible refine (zdg (ap.out _ I)).mono ?_;rw [Hm.out];rintro e w9 ⟨rfl,rfl⟩))
     ·have T:=za (show op=some y by
       rw [ab.out,D.out];exact open_find aj.out Hl.out ak.out o.out S.out Hm.out)
      go_ret2;exact⟨by rw [T.out];rfl,u.trans (b.trans (f.trans (a.trans I)))⟩
     ·go_roundw
      case rel=>exact⟨k+1,oM,gM,za (fun y' hy'=>by
       rw [dO,Hl.out,eK] at hy';rcases List.mem_append.1 hy' with h1|h1
       ·exact S.out y' h1
       ·simp at h1;rw [h1,ak.out];exact Hm.out),a.trans I⟩
      case measure=>simp [intOf];omega
    ·have av:(Q.length:Int)<=(k:Int):=oM;go_wp2_with fail
     go_roundw
     case rel=>exact⟨i+1,oM,gM,za (fun y v=>by
      rw [dO,aj.out,List.flatMap_append] at v;rcases List.mem_append.1 v with h1|h1
      ·exact o.out y h1
      ·refine S.out y ?_;rw [dK oM];simpa using h1),f.trans a⟩
     case measure=>simp [intOf];omega
  ·have av:(nr:Int)<=(i:Int):=oM;have ay:=za (show op=none by
    rw [ab.out,D.out,List.find?_eq_none];intro y v;have:=o.out y (by rw [dK (oH He.out)];exact v);rw [this];decide)
   go_wp2_with fail
   go_ret2;exact⟨by rw [ay.out];rfl,u.trans (b.trans f)⟩
end
end Go.Proofs.YtckbjnndaaoddaaGreatDoor
