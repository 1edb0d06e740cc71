/- The referenc -/
import Derived.Test.YtckbjnndaaoddaaGreatDoorY12
set_option maxHeartbeats 4000000
set_option maxRecDepth 100000
namespace Go.Proofs.YtckbjnndaaoddaaGreatDoor
open Go Go.RowKit
open Blk renaming new->eX
open Bool renaming and_eq_true->eD,or_eq_true->iC
open Ext renaming bl_->eS,eq_->gO,refl->dE
open Frm renaming setCell->eB
open Int renaming cast_ofNat_Int->jY,natCast_add->iT,toNat_natCast->fF
open List renaming all_eq_true->fH,getD_eq_getElem?_getD->eE,getElem?_eq_getElem->dH,length_cons->gJ,length_map->eT,map_map->iO,mem_of_mem_drop->j9,range->fW,take_add_one->eG,take_of_length_le->eF
open Nat renaming add_assoc->gF,le_refl->dI,le_trans->eI,mod_eq_of_lt->iJ,mul_comm->gK,mul_le_mul->fU,pow_le_pow_right->e6,testBit_and->iE,zero_le->eC
open Option renaming getD_some->gQ,toList_some->e8
open Reads renaming af->eW
variable {A:Option Addr} {K L c g j k l n:Nat} {S:Nat->Prop} {W w w0:World} {a p:Aut} {e:Ending} {f:ByteArray->Bool} {s t:Sys} {ss ts:List Sys} {v:List Nat} {x:ByteArray}
theorem tot_le6:∀ ls:List (List Int),(∀ l∈ls,l.length<=6)->tot ls<=ls.length*6
 |[],_=>by simp [tot]
 |l :: r,h=>by
  have:=tot_le6 r (fun x hx=>h x (by simp [hx]))
  have:=h l sM
  rw [show tot (l :: r)=l.length+tot r by simp [tot],gJ,Nat.add_mul]
  omega
theorem zcO (h:zj a=true):a.size<=1048576:=by
 obtain⟨_,⟨_,f⟩,g,b⟩:=zl h;have i:=tot_le6 a.next (fun l hl=>by
  obtain⟨q,d⟩:=List.getElem?_of_mem hl;obtain⟨c,_⟩:=b q l d;rw [c];exact zA _ _)
 unfold Aut.size;omega
def zjh (w:World) (s:Sys) (p:Aut) (L:Nat) (e:Ending) (w':World):Prop:=
 ∃ (A:Option Addr) (n c:Nat) (B:Option Addr) (m d:Nat) (B':Option Addr) (m' d':Nat),e=.returned (.tuple #[.agg #[s.al,s.st,.slice A n c,p.al,.slice B m d,.slice B' m' d',L],.bool true])∧Tch w' A n B m B' m' s p L∧Ext w w'
section
variable {w:World} {lo hi n c lo1 hi1 m d m' d' lo2 hi2 k c2:Nat} {A B B' C:Option Addr} {s t:Sys} {p:Aut}
theorem spec_TaskOf (hs:zV w lo hi A n s)(hp:zF w lo1 hi1 B m B' m' p)(ht:zV w lo2 hi2 C k t)(hif:iface s p t=(L:Int))(hn:n<=1000000)(hhi:hi<=w.heap.size) :
  Calls Tryz.prog 202 #[.agg #[s.al,s.st,.slice A n c],.agg #[p.al,.slice B m d,.slice B' m' d'],.agg #[t.al,t.st,.slice C k c2]] w (zjh w s p L):=by
 obtain⟨I,vp,vt⟩:=zbz (show 0<=iface s p t by omega);have hL:L<64:=by
  rw [zda I vp vt] at hif;have h1:=zG vt;have h2:((s.al.toNat|||p.al.toNat)&&&t.al.toNat)<=t.al.toNat:=Nat.and_le_right;omega
 have D:=za (fun W (hW:Ext w W)=>zet (c:=c) (d1:=d) (d1':=d') (c2:=c2) (hs.ext hW) (hp.ext hW) (ht.ext hW));rw [hif] at D;obtain⟨P,Z⟩:∃ P:Nat,s.st=(P:Int):=⟨s.st.toNat,by have:=(zck I).1;omega⟩;have O:P<=16:=by have:=(zck I).2.1;omega
 have HK:=za (fun W (hW:Ext w W)=>spec_l2Keep (c:=c) (hs.ext hW) I Z hn (eI hhi hW.size));have HC:=za (fun W (hW:Ext w W)=>zfA (c:=d) (c':=d') (hp.ext hW) (zcO vp));have hF:1<=2 ^ P∧2 ^ P<=65536:=⟨Nat.one_le_two_pow,by have:=e6 (show 1<=2 by omega) O;have h2:(2:Nat) ^ 16=65536:=rfl;omega⟩;have J:=za (fun W=>zgz P oM W);have M:=za Z;have hV:=za (And.intro I (And.intro vp hL));rw [Z] at D HK ⊢;generalize hFe:2 ^ P=F at *;have aq:IntKind.i64.wrap ((F:Int) - 1)=((F - 1:Nat):Int):=by rw [IntWalk.i64_in _ oM];omega
 clear hFe hs hp ht hif I vp vt Z;obtain⟨V,U0⟩:∃ x,Hid ((((w.alloc (.cells #[s.al,.int .i64 (P:Nat),.slice A n c] 38)).alloc (.cells #[p.al,.slice B m d,.slice B' m' d'] 27)).alloc (.cells #[t.al,t.st,.slice C k c2] 38)).alloc (.cells #[(0:Int),(0:Int),(),(0:Int),(),(),(0:Int)] 70)=x):=⟨_,za rfl⟩;have G:Ext w V:=(((((dE _).alloc _).alloc _).alloc _).alloc _).trans (gO U0.out);obtain⟨b1,b2,b3⟩:=zU (((dE _).alloc _).trans (gO U0.out));have b4:=eS U0.out;simp only [World.size_alloc] at b4
 go_enter Tryz.func202,Tryz.ntmps202
 go_upto_region 1 with fail
 rw [U0.out] at *;have CS:=b1.cells;have CP:=b2.cells;have CT:=b3.cells;have ah:=dE V;go_upto_region 4 with (first
  |(go_at_call 95;refine (D.out _ G).mono (mQ fun w1 a=>?_)))
 have H:=G.trans a;have av:=fun W (hW:Ext w1 W)=>CS W (a.trans hW);have au:=fun W (hW:Ext w1 W)=>CP W (a.trans hW);have ag:=dE w1;clear CS CP CT ah;refine uR (fun X=>Ext w1 X) [10] (zw.of [0,1,2,6,8,3,4,5,7,9,10,11]) ?_;refine uQ ?_;have q:=ag.drew;refine ze fun K hK=>?_;go_simp;refine (J.out _).mono ?_;rintro e w' ⟨rfl,rfl⟩;refine hK.out _ _ q ?_;refine pT ?_;refine uQ ?_;refine ze fun K hK=>?_;go_simp;refine (HK.out _ (H.trans q)).mono ?_;rintro e w2 ⟨j,l,u,rfl,R,ai⟩;rw [M.out];have g:=q.trans ai;refine hK.out _ _ g ?_;refine pT ?_;refine uQ ?_;refine ze fun K hK=>?_;go_simp;refine (HC.out _ (H.trans g)).mono ?_;rintro e h ⟨o,r,d1,b,f,d1',rfl,S,U⟩;have i:=g.trans U;refine hK.out _ _ i ?_;refine pT ?_;refine uQ ?_;have hxw:=H.trans i;have Y:=b4.ext (a.trans i);have kz:=Y.cell;have fz:=Y.frozen;have E:=R.ext U;have aE:=b4.lt;have z:zV h V.heap.size h.heap.size j l s:=(show zV h _ h.heap.size j l s from ⟨E.1,eW E.2⟩).more (a.trans q).size (dI _);have y:zF h V.heap.size h.heap.size o r b f p:=S.reads.more (a.trans g).size (dI _);have ar:=G.size;have Q:Frm (fun k=>k=w.heap.size+1+1+1) h (((((((h.setCell ⟨w.heap.size+1+1+1,0,none⟩ s.al).setCell ⟨w.heap.size+1+1+1,1,none⟩ (.int .i64 (P:Nat))).setCell ⟨w.heap.size+1+1+1,2,none⟩ (.slice j l u)).setCell ⟨w.heap.size+1+1+1,3,none⟩ p.al).setCell ⟨w.heap.size+1+1+1,4,none⟩ (.slice o r d1)).setCell ⟨w.heap.size+1+1+1,5,none⟩ (.slice b f d1')).setCell ⟨w.heap.size+1+1+1,6,none⟩ (.int .i64 (L:Nat))):=
  ((((((eB h _ 0 _).trans (eB _ _ 1 _)).trans (eB _ _ 2 _)).trans (eB _ _ 3 _)).trans (eB _ _ 4 _)).trans (eB _ _ 5 _)).trans (eB _ _ 6 _)
 have bW:Blk (((((((h.setCell ⟨w.heap.size+1+1+1,0,none⟩ s.al).setCell ⟨w.heap.size+1+1+1,1,none⟩ (.int .i64 (P:Nat))).setCell ⟨w.heap.size+1+1+1,2,none⟩ (.slice j l u)).setCell ⟨w.heap.size+1+1+1,3,none⟩ p.al).setCell ⟨w.heap.size+1+1+1,4,none⟩ (.slice o r d1)).setCell ⟨w.heap.size+1+1+1,5,none⟩ (.slice b f d1')).setCell ⟨w.heap.size+1+1+1,6,none⟩ (.int .i64 (L:Nat))) (w.heap.size+1+1+1) 70 #[.int .i64 s.al,.int .i64 (P:Nat),.slice j l u,.int .i64 p.al,.slice o r d1,.slice b f d1',.int .i64 (L:Nat)]:=by
  simpa using ((((((Y.ab 0 (.int .i64 s.al)).ab 1 (.int .i64 (P:Nat))).ab 2 (.slice j l u)).ab 3 (.int .i64 p.al)).ab 4 (.slice o r d1)).ab 5 (.slice b f d1')).ab 6 (.int .i64 (L:Nat))
 refine zb fun K hK=>?_;go_simp;generalize (((((((h.setCell ⟨w.heap.size+1+1+1,0,none⟩ s.al).setCell ⟨w.heap.size+1+1+1,1,none⟩ (.int .i64 (P:Nat))).setCell ⟨w.heap.size+1+1+1,2,none⟩ (.slice j l u)).setCell ⟨w.heap.size+1+1+1,3,none⟩ p.al).setCell ⟨w.heap.size+1+1+1,4,none⟩ (.slice o r d1)).setCell ⟨w.heap.size+1+1+1,5,none⟩ (.slice b f d1')).setCell ⟨w.heap.size+1+1+1,6,none⟩ (.int .i64 (L:Nat)))=W at *;have T:=za (show zjh w s p L (.returned (.tuple #[.agg #[s.al,.int .i64 (P:Nat),.slice j l u,p.al,.slice o r d1,.slice b f d1',.int .i64 (L:Nat)],.bool true])) W from
  ⟨j,l,u,o,r,d1,b,f,d1',by rw [M.out],⟨⟨V.heap.size,h.heap.size,z.frm Q (fun k h1 h2 e=>oM),y.frm Q (fun k h1 h2 e=>oM),Q.size⟩,hV.out.1,hV.out.2.1,hV.out.2.2⟩,hxw.frm Q (fun k hk e=>oM)⟩)
 have cf:=bW.cell;clear Q bW z y kz fz Y E R S hxw;refine hK.out _ _ ?_;clear hK;refine pT ?_;refine uQ ?_;refine zg ?_;go_wp2_with fail
 exact bodyPost_ret (v:=.tuple #[.agg #[s.al,.int .i64 (P:Nat),.slice j l u,p.al,.slice o r d1,.slice b f d1',.int .i64 (L:Nat)],.bool true]) (by simp [results,Tryz.results202,go_sem,cf]) rfl T.out
end
section
variable {d:Nat->Nat->List Nat} {start L:List Nat} {goal:Nat->Bool} {N:Nat}
theorem zfh (h:¬ Lost d start goal L):∃ v,Found d start goal L v:=by
 have j:∃ v,(∀ l∈v,l∈L)∧∃ x,zbe d start v x∧goal x=true:=by
  apply Classical.byContradiction;intro hn;apply h;intro v b x c;cases hg:goal x with
  |false=>rfl
  |true=>exact absurd ⟨v,b,x,c,hg⟩ hn
 have i:∀ n v,zcF v=n->(∀ l∈v,l∈L)->(∃ x,zbe d start v x∧goal x=true)->∃ v,Found d start goal L v:=by
  intro n
  induction n using Nat.strongRecOn with
  |ind n ih =>
   intro v hn b c
   by_cases hm:∃ u,(∀ l∈u,l∈L)∧zcF u<zcF v∧∃ x,zbe d start u x∧goal x=true
   ·obtain⟨u,f,a,g⟩:=hm;exact ih (zcF u) oM u rfl f g
   ·refine⟨v,b,c,fun u f a x hgx=>?_⟩;cases hg:goal x with
    |false=>rfl
    |true=>exact absurd ⟨u,f,a,x,hgx,hg⟩ hm
 obtain⟨v,b,c⟩:=j;exact i _ v rfl b c
theorem found_len (h:Found d [0] goal L v)(h6:∀ l∈L,l<6)(hN:0<N)(hd:∀ x l,x<N->l∈L->∀ y∈d x l,y<N):v.length<N:=by
 obtain⟨r,⟨x,F,z⟩,b⟩:=h;obtain⟨H,s,i⟩:=zbe.dn (L:=L) (v:=[]) (u:=v) (goal:=goal) (by simpa using F) z r;have p:H=0:=by have:=s.ah;simpa using this
 subst p;have j:∃ n,Mn d L goal n 0∧n<=v.length:=by
  have q:∀ n,Dn d L goal n 0->∃ m,Mn d L goal m 0∧m<=n:=by
   intro n
   induction n using Nat.strongRecOn with
   |ind n ih =>
    intro g
    by_cases f:∃ m,m<n∧Dn d L goal m 0
    ·obtain⟨m,a,f⟩:=f;obtain⟨k,t,I⟩:=ih m a f;exact⟨k,t,oM⟩
    ·exact⟨n,⟨g,fun m a hm'=>f ⟨m,a,hm'⟩⟩,dI _⟩
  exact q _ i
 obtain⟨n,g,-⟩:=j;have D:=g.lt hN hd;obtain⟨u,E,c,y,G,o⟩:=Dn.word (v:=[]) (start:=[0]) g.1 (.nil sM);rcases Nat.lt_or_ge n v.length with C|B
 ·have:=b u c (zim (fun l hl=>h6 l (r l hl)) (fun l hl=>h6 l (c l hl)) oM) y (by simpa using G);rw [o] at this;cases this
 ·omega
theorem firstW_ok (h6:∀ l∈L,l<6)(hN:0<N)(hd:∀ x l,x<N->l∈L->∀ y∈d x l,y<N):(∀ l∈zgF d [0] goal L,l<6)∧(zgF d [0] goal L).length<N:=by
 by_cases h:Lost d [0] goal L
 ·rw [(zgt h).1];exact⟨sM,by simpa using hN⟩
 ·obtain⟨v,a⟩:=zfh h;rw [(zfr h6 a).1];exact⟨fun l hl=>h6 l (a.1 l hl),found_len a h6 hN hd⟩
end
theorem wstr_word (h6:∀ l∈v,l<6)(hl:v.length<=50000):zbj (wstr v)=true:=by
 unfold zbj;simp only [eD,decide_eq_true_eq];refine⟨by rw [zil];exact hl,?_⟩;rw [fH];intro b hb;unfold wstr lbs at hb;rw [strOfNums_data,iO] at hb;obtain⟨l,hl,rfl⟩:=List.mem_map.1 hb;have a:=h6 l hl;have c:∀ l,l<6->zeC (UInt8.ofNat (97+l))=true:=dM;have e:((fun n:Int=>UInt8.ofNat n.toNat) ∘ fun l:Nat=>((97+l:Nat):Int)) l=UInt8.ofNat (97+l):=by
  show UInt8.ofNat (((97+l:Nat):Int)).toNat=_;rw [fF]
 first
  |(rw [e];exact c l a)
  |(have:=c l a;simpa using this)
theorem vioW_word (hss:∀ s∈ss,zk s=true)(ha:zj a=true)(hp:zj p=true)(hN:zE (zbl ss [a,p])<=50000):zbj (vioW ss a p)=true∧(vioW ss a p).size<zE (zbl ss [a,p]):=by
 have b:∀ m∈zbl ss [a,p],zew m:=by
  intro m b;unfold zbl at b;rcases List.mem_append.1 b with h|h
  ·obtain⟨s,g,rfl⟩:=List.mem_map.1 h;exact zei (zck (hss s g))
  ·simp at h;rcases h with rfl|rfl
   ·exact zbw ha
   ·exact zbw hp
 obtain⟨c,f⟩:=firstW_ok (d:=zca ss a p) (goal:=zbJ a p) (L:=letters (zB ss|||a.al.toNat) 6) (N:=zE (zbl ss [a,p])) (fun l hl=>(zD.1 hl).1) (zfW b) (fun x l _ hl y hy=>by
  rw [zdl] at hy;exact ziX b (zD.1 hl).1 y hy)
 unfold vioW;exact⟨wstr_word c oM,by rw [zil];exact f⟩
theorem prod_le (hss:∀ s∈ss,zk s=true):zE (zbl ss [a,p])<=16 ^ ss.length*(a.next.length*p.next.length):=by
 induction ss with
 |nil=>simp [zbl,zE,zav,zbv]
 |cons s r ih =>
  have b:=ih (fun s hs=>hss s (List.mem_cons_of_mem _ hs));have c:s.st.toNat<=16:=by have:=(zck (hss s List.mem_cons_self)).2.1;omega
  show zE (zdQ s :: zbl r [a,p])<=_;rw [zdO,gJ,Nat.pow_succ]
  calc s.st.toNat*zE (zbl r [a,p])<=16*(16 ^ r.length*(a.next.length*p.next.length)):=fU c b
   _=16 ^ r.length*16*(a.next.length*p.next.length):=by rw [← Nat.mul_assoc,gK 16]
theorem zdi (hs:zk s=true)(ha:zj a=true)(hp:zj p=true):zbj (zaG s a p)=true∧(zaG s a p).size<=2304:=by
 have b:=(zl ha).2.1.2;have c:=(zl hp).2.1.2;have d:=prod_le (ss:=[s]) (a:=a) (p:=p) (by simpa using hs);have g:a.next.length*p.next.length<=12*12:=fU b c;simp only [List.length_singleton,Nat.pow_one] at d;obtain⟨f,h⟩:=vioW_word (ss:=[s]) (by simpa using hs) ha hp oM;unfold zaG;rw [if_pos (by unfold zcL;rw [hs,ha,hp];rfl)];exact⟨f,oM⟩
theorem zcX (hss:zy ss=true)(hp:zj p=true):zbj (zR ss p)=true∧(zR ss p).size<16 ^ ss.length*12:=by
 obtain⟨⟨i,b⟩,c⟩:=zao hss;have d:=(zl hp).2.1.2;have f:=prod_le (a:=free) (p:=p) c;have j:free.next.length*p.next.length<=1*12:=fU (dI _) d;have k:zE (zbl ss [free,p])<=16 ^ ss.length*12:=eI f (Nat.mul_le_mul_left _ oM);have g:16 ^ ss.length<=16 ^ 3:=e6 oM b;have l:16 ^ ss.length*12<=4096*12:=Nat.mul_le_mul_right _ g;obtain⟨h,m⟩:=vioW_word c zbu hp oM;unfold zR;rw [if_pos (by unfold zbi;rw [hss,hp];rfl)];exact⟨h,oM⟩
noncomputable def zaP (s:Sys) (p:Aut) (t:Sys) (L:Nat) (a:Aut):ByteArray × Int:=
 if zbD s a p=true then (zan (zaG s a p) L,-1)
 else if zbf [t] a=true then (zan (zR [t] a) L,if zo s p L (zan (zR [t] a) L)=true then -1 else 1)
 else (⟨#[]⟩,0)
section
variable {w:World} {lo hi n c lo1 hi1 m d m' d' lo2 hi2 k c2 k1 d1 k1' d1' L:Nat} {A B B' C X X':Option Addr} {s t:Sys} {p a:Aut}
theorem zfx (ht:zV w lo hi C k t)(ha:zF w lo1 hi1 X k1 X' k1' a) :
  Calls Tryz.prog 271 #[.agg #[t.al,t.st,.slice C k c2],.agg #[a.al,.slice X k1 d1,.slice X' k1' d1']] w fun e w'=>e=.returned (.tuple #[.string (zR [t] a),.bool (zbf [t] a)])∧Ext w w':=by
 have m:=za (fun W (hW:Ext w W)=>ht.ext hW);have j:=za (fun W (hW:Ext w W)=>ha.ext hW);clear ht ha
 go_enter Tryz.func271,Tryz.ntmps271
 go_upto_region 1 with fail
 generalize U0:(w.alloc _).alloc _=i at *;obtain⟨d,n,o⟩:=Ext.x2_ U0;clear U0;have s:=n.cell;have b:=(dE i).alloc (.cells #[t.al,t.st,.slice C k c2] 38);have h:=eX i 38 #[t.al,t.st,.slice C k c2];obtain⟨r,q,f⟩:=sl_one h (m.out _ (d.trans b));have p:=(o.ext b).cell;have l:=za (zbP (c:=1) (d2:=d1) (d2':=d1') f (j.out _ (d.trans b)));clear f h;go_wp2_with fail
 refine l.out.mono (mQ fun u g=>?_);go_wp2_with fail
 go_ret2;exact⟨rfl,(d.trans b).trans g⟩
theorem zjP (h:Tch w A n B m B' m' s p L)(ht:zV w lo hi C k t)(ha:zF w lo1 hi1 X k1 X' k1' a) (vt:zk t=true) (va:zj a=true) :
  Calls Tryz.prog 203 #[.agg #[t.al,t.st,.slice C k c2],.agg #[s.al,s.st,.slice A n c,p.al,.slice B m d,.slice B' m' d',L],.agg #[a.al,.slice X k1 d1,.slice X' k1' d1']] w fun e w'=>e=.returned (.tuple #[.string (zaP s p t L a).1,.int .i64 (zaP s p t L a).2])∧Ext w w':=by
 have hL:=h.lt;have q:=za (fun W (hW:Ext w W)=>by
  obtain⟨lo,hi,I,T,_⟩:=h.at_;exact zdg (c:=c) (d1:=d1) (d1':=d1') (d2:=d) (d2':=d') (I.ext hW) (ha.ext hW) (T.ext hW))
 have HS:=za (fun W (hW:Ext w W) (y:ByteArray) hy=>by
  obtain⟨lo,hi,I,T,h3⟩:=h.at_;exact zej (c:=c) (d:=d) (d':=d') (L:=L) (t:=y) (I.ext hW) (T.ext hW) h.sv h.pv h.lt (eI h3 hW.size) hy)
 have v:=za (fun W (hW:Ext w W)=>zfx (c2:=c2) (d1:=d1) (d1':=d1') (ht.ext hW) (ha.ext hW));have hu:=za (zdi h.sv va h.pv);have U:=za (zcX (ss:=[t]) (p:=a) (by unfold zy;simp [vt]) va);have o:=za (show zaP s p t L a=if zbD s a p=true then (zan (zaG s a p) L,-1)
  else if zbf [t] a=true then (zan (zR [t] a) L,if zo s p L (zan (zR [t] a) L)=true then -1 else 1)
  else (⟨#[]⟩,0) from rfl)
 generalize zaP s p t L a=J at *;obtain⟨O,aa⟩:∃ O,Hid (zaG s a p=O):=⟨_,rfl⟩;obtain⟨H,V⟩:∃ H,Hid (zR [t] a=H):=⟨_,rfl⟩;rw [aa.out] at q hu o;rw [V.out] at v U o;have b:Ext w (((w.alloc (.cells #[t.al,t.st,.slice C k c2] 38)).alloc (.cells #[s.al,s.st,.slice A n c,p.al,.slice B m d,.slice B' m' d',L] 70)).alloc (.cells #[a.al,.slice X k1 d1,.slice X' k1' d1'] 27)):=(((dE _).alloc _).alloc _).alloc _;obtain⟨Q,R,S⟩:=zU (dE (((w.alloc (.cells #[t.al,t.st,.slice C k c2] 38)).alloc (.cells #[s.al,s.st,.slice A n c,p.al,.slice B m d,.slice B' m' d',L] 70)).alloc (.cells #[a.al,.slice X k1 d1,.slice X' k1' d1'] 27)));clear h ht ha vt va;cases hub:zbD s a p
 ·cases hbb:zbf [t] a
  ·have f:=za (show J=(⟨#[]⟩,0) by rw [o.out,hub,hbb];rfl);rw [hub] at q;rw [hbb] at v;rw [f.out];clear o f hub hbb
   go_enter Tryz.func203,Tryz.ntmps203
   go_upto_region 1 with fail
   generalize ((w.alloc _).alloc _).alloc _=F at *;have CT:=Q.cells;have CK:=R.cells;have CA:=S.cells;have D:=dE F;go_wp2_with (first
    |(go_at_call 59;refine (q.out _ b).mono (mQ fun w1 g=>?_))
    |(go_at_call 271;refine (v.out _ (b.trans g)).mono (mQ fun w2 r=>?_);have l:=g.trans r))
   go_ret2;exact⟨rfl,b.trans l⟩
  ·obtain⟨j,z⟩:∃ j,Hid (zan H L=j):=⟨_,rfl⟩;have G:=za (fun W=>zaX (w:=W) (s:=H) (a:=L) U.out.1 oM);have Y:=za (show j.size<=9223372036854775807 by
    rw [← z.out];have I:=zbk (zaT (zcg U.out.1 L));omega)
   rw [z.out] at G o;have x:=za (fun W (hW:Ext w W)=>HS.out W hW j Y.out);obtain⟨M,Z⟩:∃ M,Hid (zo s p L j=M):=⟨_,rfl⟩;rw [Z.out] at x o;rw [hub] at q;rw [hbb] at v;have f:=za (show J=(j,if M=true then -1 else 1) by rw [o.out,hub,hbb];rfl);rw [f.out];clear o f hub hbb;cases M
   all_goals
    go_enter Tryz.func203,Tryz.ntmps203
    go_upto_region 1 with fail
    generalize ((w.alloc _).alloc _).alloc _=F at *;have CT:=Q.cells;have CK:=R.cells;have CA:=S.cells;have D:=dE F;go_wp2_with (first
     |(go_at_call 59;refine (q.out _ b).mono (mQ fun w1 g=>?_))
     |(go_at_call 271;refine (v.out _ (b.trans g)).mono (mQ fun w2 r=>?_);have l:=g.trans r)
     |(go_at_call 60;refine (G.out _).mono (mQ fun w3 u=>?_);have i:=l.trans u)
     |(go_at_call 62;refine (x.out _ (b.trans i)).mono (mQ fun w4 ab=>?_);have E:=i.trans ab))
    go_ret2;exact⟨rfl,b.trans E⟩
 ·have G:=za (fun W=>zaX (w:=W) (s:=O) (a:=L) hu.out.1 oM);rw [hub] at q;have f:=za (show J=(zan O L,-1) by rw [o.out,hub];rfl);rw [f.out];clear o f hub
  go_enter Tryz.func203,Tryz.ntmps203
  go_upto_region 1 with fail
  generalize ((w.alloc _).alloc _).alloc _=F at *;have CT:=Q.cells;have CK:=R.cells;have CA:=S.cells;have D:=dE F;go_wp2_with (first
   |(go_at_call 59;refine (q.out _ b).mono (mQ fun w1 g=>?_))
   |(go_at_call 60;refine (G.out _).mono (mQ fun w3 u=>?_);have i:=g.trans u))
  go_ret2;exact⟨rfl,b.trans i⟩
end
structure Vd where
 code:Int
 asm:Aut
 tr:ByteArray
 ro:Nat
def noA:Aut:=⟨0,[],[]⟩
noncomputable def runT (s t:Sys) (p:Aut) (L:Nat):Nat->Nat->Option (List ByteArray × List ByteArray)->Vd
 |0,k,_=>⟨2,noA,⟨#[]⟩,k⟩
 |_+1,k,none=>⟨2,noA,⟨#[]⟩,k⟩
 |f+1,k,some tab =>
  if (zaP s p t L (zcN L (zo s p L) tab.1 tab.2)).2=0 then ⟨0,zcN L (zo s p L) tab.1 tab.2,⟨#[]⟩,k+1⟩
  else if (zaP s p t L (zcN L (zo s p L) tab.1 tab.2)).2=1 then ⟨1,noA,zR [s,t] p,k+1⟩
  else runT s t p L f (k+1) (zaB L (zo s p L) tab.1 tab.2 (zaP s p t L (zcN L (zo s p L) tab.1 tab.2)).1)
def zdF (w:World) (v:Vd) (e:Ending) (w':World):Prop:=
 ∃ (A:Option Addr) (n c:Nat) (A':Option Addr) (n' c':Nat) (x:Int) (X:Option Addr) (k1 d1:Nat) (X':Option Addr) (k1' d1':Nat),
  e=.returned (.tuple #[.agg #[v.code,v.asm.al,.slice A n c,.slice A' n' c',v.tr,v.ro],.agg #[x,.slice X k1 d1,.slice X' k1' d1']])∧zN w' w.heap.size A n c A' n' c' v.asm∧Ext w w'
def zex (L:Nat) (f:ByteArray->Bool) (o:Option (List ByteArray × List ByteArray)):Prop:=∀ rs cs,o=some (rs,cs)->zbX L f rs cs∧zaJ L f rs cs=none
theorem zex.new (L:Nat) (f:ByteArray->Bool):zex L f ((zX L f [⟨#[]⟩] 11 [⟨#[]⟩]).map fun r=>(r,[⟨#[]⟩])):=by
 intro rs cs h;obtain⟨r,c,e⟩:=Option.map_eq_some_iff.1 h;obtain⟨rfl,rfl⟩:=Prod.mk.inj e;obtain⟨a,b,-⟩:=zhu 11 _ _ (zbX.first L f) dM c
 exact⟨a,b⟩
theorem zex.ao {rows cols:List ByteArray}(h:zbX L f rows cols) (x:ByteArray):zex L f (zaB L f rows cols x):=by
 intro rs cs hl;unfold zaB at hl
 split at hl
 ·cases hl
 ·rename_i col hc
  split at hl
  ·rename_i ha;obtain⟨r,d,e⟩:=Option.map_eq_some_iff.1 hl;obtain⟨rfl,rfl⟩:=Prod.mk.inj e;have c:=h.addC ha;obtain⟨a,b,-⟩:=zhu _ _ _ c (oH h.r12) d;exact⟨a,b⟩
  ·cases hl
theorem judgeT_size (hs:zk s=true)(hp:zj p=true)(ht:zk t=true)(ha:zj a=true):(zaP s p t L a).1.size<=50000:=by
 have b:=zdi hs ha hp;have c:=zcX (ss:=[t]) (p:=a) (by unfold zy;simp [ht]) ha;unfold zaP;split
 ·exact zbk (zaT (zcg b.1 L))
 ·split
  ·exact zbk (zaT (zcg c.1 L))
  ·exact eC _
def TabM (w0 W:World) (g:Nat) (o:Option (List ByteArray × List ByteArray)):Prop:=
 ∃ (nr nc:Nat) (R:Option Addr) (cr:Nat) (C:Option Addr) (cc:Nat),Blk W g 90 #[.slice R nr cr,.slice C nc cc]∧nr<=cr∧nc<=cc ∧
  ∀ rs cs,o=some (rs,cs)->W.ownsRow w0.heap.size 9 1 (.slice R nr cr) nr (zM rs)∧W.ownsRow w0.heap.size 9 1 (.slice C nc cc) nc (zM cs)
theorem TabM.far {W':World} {G:Nat} {o:Option (List ByteArray × List ByteArray)} {cs:Array Value} {t:TypeId}(h:TabM w0 W g o)(hB:Blk W G t cs)(hf:Frm (fun k=>k=G) W W')(hg:g≠G)(ht:9≠t):TabM w0 W' g o:=by
 obtain⟨m,l,R,d,C,c,j,f,i,a⟩:=h;exact⟨m,l,R,d,C,c,j.frm hf hg,f,i,fun rs cs e=>⟨zf (a rs cs e).1 hf (fun b hv e'=>zr (a rs cs e).1 hB ht hv e'),zf (a rs cs e).2 hf (fun b hv e'=>zr (a rs cs e).2 hB ht hv e')⟩⟩
theorem zcJ.fill {o:Option (List ByteArray × List ByteArray)} (h:zcJ w o e W)(hw:w0.heap.size<=w.heap.size) :
  Ext w W∧∃ (nr nc:Nat) (R:Option Addr) (cr:Nat) (C:Option Addr) (cc:Nat),e=.returned (.tuple #[.agg #[.slice R nr cr,.slice C nc cc],.bool o.isSome])∧nr<=cr∧nc<=cc ∧
   ∀ rs cs,o=some (rs,cs)->W.ownsRow w0.heap.size 9 1 (.slice R nr cr) nr (zM rs)∧W.ownsRow w0.heap.size 9 1 (.slice C nc cc) nc (zM cs):=by
 obtain⟨c,⟨rfl,rfl⟩|⟨rs,cs,nr,nc,R,cr,C,cc,rfl,rfl,a,b⟩⟩:=h
 ·exact⟨c,0,0,none,0,none,0,rfl,dI _,dI _,fun _ _ e=>by cases e⟩
 ·refine⟨c,nr,nc,R,cr,C,cc,rfl,zhk a,zhk b,fun rs' cs' e=>?_⟩;obtain⟨rfl,rfl⟩:=Prod.mk.inj (Option.some.inj e);exact⟨zq a hw,zq b hw⟩
theorem sl_pair {lo hi lo2 hi2 c2:Nat} {C:Option Addr} (hb:Blk w g 38 #[s.al,s.st,.slice A n c,t.al,t.st,.slice C k c2])(h:zV w lo hi A n s)(h':zV w lo2 hi2 C k t):∃ lo hi,zdG w lo hi (some ⟨g,0,none⟩) 2 [s,t]:=by
 refine⟨0,hi+hi2+g+1,rfl,[.int .i64 s.al,.int .i64 s.st,.slice A n c,.int .i64 t.al,.int .i64 t.st,.slice C k c2],⟨rfl,oM,fun _=>⟨_,rfl,eC _,by dsimp only;omega,fun j u hu=>?_⟩⟩,fun j u hu=>?_⟩
 ·rw [zT,Nat.zero_add,hb.cell];simpa using hu
 ·match j with
  |0 =>
   simp at hu;subst hu;exact⟨A,n,c,rfl,rfl,rfl,h.1,h.2.more (eC _) oM⟩
  |1 =>
   simp at hu;subst hu;exact⟨C,k,c2,rfl,rfl,rfl,h'.1,h'.2.more (eC _) oM⟩
  |j+2=>simp at hu
theorem zdF.drew {v:Vd} (h:zdF w v e W):zdF w v e W.drew:=by
 obtain⟨A,n,c,a,g,b,x,X,k1,d1,X',k1',d1',d,ho,f⟩:=h;have hd:Ext W W.drew:=(dE W).drew;exact⟨A,n,c,a,g,b,x,X,k1,d1,X',k1',d1',d,ho.ext hd,f.trans hd⟩
theorem zdF.cast {v u:Vd} (hu:u=v)(h:zdF w v e W):zdF w u e W:=hu ▸ h
def roAt (W:World) (g:Nat):Nat:=match W.cell? ⟨g,5,none⟩ with|some (.int _ z)=>z.toNat|_=>0
theorem roAt_blk {t:TypeId} {u0 u1 u2 u3 u4:Value}(h:Blk W g t #[u0,u1,u2,u3,u4,j]):roAt W g=j:=by
 unfold roAt;rw [h.cell 5];exact fF j
theorem runT_end {o:Option (List ByteArray × List ByteArray)}(h:¬ (o.isSome=true∧j<K)):runT s t p L (K - j) j o=⟨2,noA,⟨#[]⟩,j⟩:=by
 cases hk:K - j with
 |zero=>rfl
 |succ f =>
  cases o with
  |none=>rfl
  |some tab=>exact absurd ⟨rfl,oM⟩ h
theorem zdC (W:World) (Z:Nat) (u0 u1 u2 u3 u4 u5:Value):Frm (fun k=>k=Z) W ((((((W.setCell Z u0).setCell ⟨Z,1,none⟩ u1).setCell ⟨Z,2,none⟩ u2).setCell ⟨Z,3,none⟩ u3).setCell ⟨Z,4,none⟩ u4).setCell ⟨Z,5,none⟩ u5):=
 (((((eB W _ 0 _).trans (eB _ _ 1 _)).trans (eB _ _ 2 _)).trans (eB _ _ 3 _)).trans (eB _ _ 4 _)).trans (eB _ _ 5 _)
theorem Frm.drew {a:World}(h:Frm S a w):Frm S a w.drew:=⟨h.os,h.tape,h.output,h.size,h.block⟩
theorem zhm {Z n' c' k1 d1 k1' d1':Nat} {A' X X':Option Addr} {v:Vd} {x:Int} {vs us:Array Value}(hx:Ext w W)(hv:Blk W Z 42 vs)(hu:Blk W (Z+1) 27 us)(h6:vs.size=6)(h3:us.size=3)(hZ:w.heap.size<=Z)(ho:zN W w.heap.size A n c A' n' c' v.asm) :
  Hid (zdF w v (.returned (.tuple #[.agg #[v.code,v.asm.al,.slice A n c,.slice A' n' c',v.tr,v.ro],.agg #[x,.slice X k1 d1,.slice X' k1' d1']]))
   (((((((((W.setCell Z v.code).setCell ⟨Z,1,none⟩ v.asm.al).setCell ⟨Z,2,none⟩ (.slice A n c)).setCell ⟨Z,3,none⟩ (.slice A' n' c')).setCell ⟨Z,4,none⟩ v.tr).setCell ⟨Z,5,none⟩ v.ro).setCell ⟨Z+1,0,none⟩ x).setCell ⟨Z+1,1,none⟩ (.slice X k1 d1)).setCell ⟨Z+1,2,none⟩ (.slice X' k1' d1'))) ∧
  Blk (((((((((W.setCell Z v.code).setCell ⟨Z,1,none⟩ v.asm.al).setCell ⟨Z,2,none⟩ (.slice A n c)).setCell ⟨Z,3,none⟩ (.slice A' n' c')).setCell ⟨Z,4,none⟩ v.tr).setCell ⟨Z,5,none⟩ v.ro).setCell ⟨Z+1,0,none⟩ x).setCell ⟨Z+1,1,none⟩ (.slice X k1 d1)).setCell ⟨Z+1,2,none⟩ (.slice X' k1' d1')) Z 42 #[v.code,v.asm.al,.slice A n c,.slice A' n' c',v.tr,v.ro] ∧
  Blk (((((((((W.setCell Z v.code).setCell ⟨Z,1,none⟩ v.asm.al).setCell ⟨Z,2,none⟩ (.slice A n c)).setCell ⟨Z,3,none⟩ (.slice A' n' c')).setCell ⟨Z,4,none⟩ v.tr).setCell ⟨Z,5,none⟩ v.ro).setCell ⟨Z+1,0,none⟩ x).setCell ⟨Z+1,1,none⟩ (.slice X k1 d1)).setCell ⟨Z+1,2,none⟩ (.slice X' k1' d1')) (Z+1) 27 #[.int .i64 x,.slice X k1 d1,.slice X' k1' d1']:=by
 obtain⟨j⟩:=vs
 match j,h6 with
 |[a0,a1,a2,a3,a4,a5],_ =>
 have a:Frm (fun k=>k=Z) W ((((((W.setCell Z v.code).setCell ⟨Z,1,none⟩ v.asm.al).setCell ⟨Z,2,none⟩ (.slice A n c)).setCell ⟨Z,3,none⟩ (.slice A' n' c')).setCell ⟨Z,4,none⟩ v.tr).setCell ⟨Z,5,none⟩ v.ro):=
  (((((eB W _ 0 _).trans (eB _ _ 1 _)).trans (eB _ _ 2 _)).trans (eB _ _ 3 _)).trans (eB _ _ 4 _)).trans (eB _ _ 5 _)
 have g:Blk ((((((W.setCell Z v.code).setCell ⟨Z,1,none⟩ v.asm.al).setCell ⟨Z,2,none⟩ (.slice A n c)).setCell ⟨Z,3,none⟩ (.slice A' n' c')).setCell ⟨Z,4,none⟩ v.tr).setCell ⟨Z,5,none⟩ v.ro) Z 42 #[.int .i64 v.code,.int .i64 v.asm.al,.slice A n c,.slice A' n' c',.string v.tr,.int .i64 v.ro]:=by
  simpa using (((((hv.ab 0 (.int .i64 v.code)).ab 1 (.int .i64 v.asm.al)).ab 2 (.slice A n c)).ab 3 (.slice A' n' c')).ab 4 (.string v.tr)).ab 5 (.int .i64 v.ro)
 have f:=ho.aq hv a dM;have d:=hu.frm a oM;have h:Ext w ((((((W.setCell Z v.code).setCell ⟨Z,1,none⟩ v.asm.al).setCell ⟨Z,2,none⟩ (.slice A n c)).setCell ⟨Z,3,none⟩ (.slice A' n' c')).setCell ⟨Z,4,none⟩ v.tr).setCell ⟨Z,5,none⟩ v.ro):=hx.frm a (fun k hk e=>oM);generalize (((((W.setCell Z v.code).setCell ⟨Z,1,none⟩ v.asm.al).setCell ⟨Z,2,none⟩ (.slice A n c)).setCell ⟨Z,3,none⟩ (.slice A' n' c')).setCell ⟨Z,4,none⟩ v.tr).setCell ⟨Z,5,none⟩ v.ro=i at *;have b:=zZ i (Z+1) (.int .i64 x) (.slice X k1 d1) (.slice X' k1' d1');exact⟨za ⟨A,n,c,A',n',c',x,X,k1,d1,X',k1',d1',rfl,f.aq d b dM,h.frm b (fun k hk e=>oM)⟩,g.frm b oM,zaf d h3 _ _ _⟩
section
variable {w:World} {lo hi n c lo1 hi1 m d m' d' lo2 hi2 k c2:Nat} {A B B' C:Option Addr} {s t:Sys} {p:Aut}
theorem yY13a1 {P:Prop}(h:P:=by
 clear hflag hgo ho hon hne1 hne2 hd hb8 hb9' hxw;go_wp2_with fail
 refine zbp (fun Y=>Frm (fun b=>b=Z) wr Y) [3] (zw.of [0,1,2,3]) kM kM kM kM kM (fun _ _ _ _ _ h=>h) hS0 ?_;refine zbE (v:=?_) rfl rfl rfl rfl (fun X hX=>?_) ?_
 rotate_left
 focus (go_simp<;>with_reducible rfl)
 refine pT ?_;refine zbE (v:=?_) rfl rfl rfl rfl (fun X hX=>?_) ?_
 rotate_left
 focus (go_simp<;>with_reducible rfl)
 refine pT ?_;refine ze fun K hK=>?_;go_simp;refine hK.out _ _ hf8.out.drew ?_;refine pT ?_;refine zb fun K hK=>?_;go_simp;refine hK.out _ _ ?_;refine zg ?_;go_wp2_with fail
 have cf2:=F2.out.cell;have cf3:=F3.out.cell;exact bodyPost_ret (v:=.tuple #[.agg #[(2:Int),(0:Int),(),(),.string ⟨#[]⟩,j],.agg #[x,.slice X k1 d1,.slice X' k1' d1']]) (by simp [results,Tryz.results112,go_sem,cf2,cf3]) rfl F1.out
 ):P:=h
theorem spec_l12Run (hs:zV w lo hi A n s)(hp:zF w lo1 hi1 B m B' m' p)(ht:zV w lo2 hi2 C k t)(hif:iface s p t=(L:Int))(hn:n<=1000000)(hhi:hi<=w.heap.size)(hK:K<=1000) :
  Calls Tryz.prog 112 #[.agg #[s.al,s.st,.slice A n c],.agg #[t.al,t.st,.slice C k c2],.agg #[p.al,.slice B m d,.slice B' m' d'],K] w
   (zdF w (runT s t p L K 0 ((zX L (zo s p L) [⟨#[]⟩] 11 [⟨#[]⟩]).map fun r=>(r,[⟨#[]⟩])))):=by
 obtain⟨vs,vp,vt⟩:=zbz (show 0<=iface s p t by omega);have Hv:=za (And.intro vs (And.intro vp vt));have bk:=za (fun W (hW:Ext w W)=>spec_TaskOf (c:=c) (d:=d) (d':=d') (c2:=c2) (hs.ext hW) (hp.ext hW) (ht.ext hW) hif hn (eI hhi hW.size));have bL:=za (fun W (hW:Ext w W)=>show Calls Tryz.prog 150 #[.slice (some W.heap.size) 2 2,.agg #[p.al,.slice B m d,.slice B' m' d']] (W.alloc (.cells #[s.al,s.st,.slice A n c,t.al,t.st,.slice C k c2] 38)) (fun e w'=>e=.returned (.tuple #[.string (zR [s,t] p),.bool (zbf [s,t] p)])∧Ext W w') by
  have f6:=(dE W).alloc (.cells #[s.al,s.st,.slice A n c,t.al,t.st,.slice C k c2] 38);obtain⟨l1,l2,cA⟩:=sl_pair (eX W 38 #[s.al,s.st,.slice A n c,t.al,t.st,.slice C k c2]) (hs.ext (hW.trans f6)) (ht.ext (hW.trans f6));exact (zbP cA (hp.ext (hW.trans f6))).mono (fun e w' h=>⟨h.1,f6.trans h.2⟩))
 have c6:=za (fun W (hW:Ext w W)=>hs.ext hW);have cp:=za (fun W (hW:Ext w W)=>ht.ext hW);obtain⟨ag,bB⟩:∃ ag,Hid (runT s t p L K 0 ((zX L (zo s p L) [⟨#[]⟩] 11 [⟨#[]⟩]).map fun r=>(r,[⟨#[]⟩]))=ag):=⟨_,rfl⟩;have bh:=za (zex.new L (zo s p L));rw [bB.out];obtain⟨aC,bf⟩:∃ aC,Hid ((zX L (zo s p L) [⟨#[]⟩] 11 [⟨#[]⟩]).map (fun r=>(r,[(⟨#[]⟩:ByteArray)]))=aC):=⟨_,rfl⟩;rw [bf.out] at bB bh;clear hs hp ht hif vs vp vt;obtain⟨w0,U0⟩:∃ x,Hid (((((w.alloc (.cells #[s.al,s.st,.slice A n c] 38)).alloc (.cells #[t.al,t.st,.slice C k c2] 38)).alloc (.cells #[p.al,.slice B m d,.slice B' m' d'] 27)).alloc (.cells #[(0:Int),(0:Int),(),(),.string ⟨#[]⟩,(0:Int)] 42)).alloc (.cells #[(0:Int),(),()] 27)=x):=⟨_,za rfl⟩;have aj:Ext w w0:=((((((dE _).alloc _).alloc _).alloc _).alloc _).alloc _).trans (gO U0.out);obtain⟨b1,b2,b3⟩:=zU ((((dE _).alloc _).alloc _).trans (gO U0.out));obtain⟨b8,b9⟩:=zJ (gO U0.out);simp only [World.size_alloc] at b8 b9
 go_enter Tryz.func112,Tryz.ntmps112
 go_upto_region 1 with fail
 rw [U0.out] at *;have CS:=b1.cells;have CT:=b2.cells;have CP:=b3.cells;have dh:=b9.lt;have dg:w.heap.size<=w.heap.size+1+1+1:=oM;generalize w.heap.size+1+1+1=Z at *;have cB:=dE w0;go_upto_region 2 with (first
  |(go_at_call 202;refine (bk.out _ aj).mono ?_;rintro e w1 ⟨A,n,c,B,m,d,B',m',d',rfl,bg,b6⟩))
 have cK:=(eX w1 70 #[s.al,s.st,.slice A n c,p.al,.slice B m d,.slice B' m' d',L]).cell;go_upto_region 5 with fail
 obtain⟨bH,bR⟩:∃ bH,Hid (w1.heap.size=bH):=⟨_,rfl⟩;generalize U0:(w1.alloc _).alloc _=w2 at *;obtain⟨bi,bK,bT⟩:=Ext.x2_ U0;clear U0;rw [bR.out] at bK bT ⊢;clear cK;have V:=bg.ext bi;have a:=b6.trans bi;have di:=bT.lt;have bJ:=za (fun W (hW:Ext w2 W)=>zfY (c:=c) (d:=d) (d':=d') (V.ext hW));rw [bf.out] at bJ;have cq:=za (fun (R:Option Addr) (nr cr:Nat) (C:Option Addr) (nc cc:Nat) (rows cols:List ByteArray) W (hW:Ext w2 W) hT hI ai ah ao=>zbQ (c:=c) (d:=d) (d':=d') (nr:=nr) (nc:=nc) (R:=R) (C:=C) (cr:=cr) (cc:=cc) (rows:=rows) (cols:=cols) (V.ext hW) hT hI ai ah ao);have co:=za (fun (R:Option Addr) (nr cr:Nat) (C:Option Addr) (nc cc:Nat) (rows cols:List ByteArray) (x:ByteArray) W (hW:Ext w2 W) hT hI ai ah ao hx=>zfk (c:=c) (d:=d) (d':=d') (nr:=nr) (nc:=nc) (R:=R) (C:=C) (cr:=cr) (cc:=cc) (rows:=rows) (cols:=cols) (x:=x) (V.ext hW) hT hI ai ah ao hx);have bG:=bT.cells;have cm:=bK.cells;have cl:=fun W (hW:Ext w2 W)=>CS W (a.trans hW);have bF:=fun W (hW:Ext w2 W)=>CT W (a.trans hW);have ck:=fun W (hW:Ext w2 W)=>CP W (a.trans hW);have b5:=dE w2;clear cB CS CT CP;go_upto_region 6 with (first
  |(go_at_call 57;refine (bJ.out _ b5).mono ?_;intro e w3 hret;obtain⟨bw,nr,nc,R,cr,C,cc,rfl,ai,ah,bq⟩:=hret.fill (w0:=w2) (dI _);clear hret))
 go_wp2_with fail
 obtain⟨G,hG⟩:∃ G,Hid (w3.heap.size=G):=⟨_,rfl⟩;have df:w2.heap.size<=G:=by rw [← hG.out];exact bw.size
 generalize U0:((w3.alloc _).alloc _).alloc _=w6 at *;obtain⟨az,am,E,ae⟩:=Ext.x3_ U0;clear U0;rw [hG.out] at am E ae ⊢;have bj:=bw.trans az;have aL:TabM w2 w6 G aC:=⟨nr,nc,R,cr,C,cc,am,ai,ah,fun rs cs e=>⟨zh (bq rs cs e).1 az,zh (bq rs cs e).2 az⟩⟩;clear bq am bw az
 go_loopw [14] (fun fv wr=>∃ (o:Option (List ByteArray × List ByteArray)) (j:Nat) (x:Int) (X:Option Addr) (k1 d1:Nat) (X':Option Addr) (k1' d1':Nat),fv=.bool o.isSome∧j<=K∧Hid (zex L (zo s p L) o)∧Hid (runT s t p L (K - j) j o=ag)∧TabM w2 wr G o∧Blk wr (G+1) 42 #[(2:Int),(0:Int),(),(),.string ⟨#[]⟩,j]∧Blk wr (G+1+1) 27 #[x,.slice X k1 d1,.slice X' k1' d1']∧Ext w2 wr) (fun _ wr=>K - roAt wr (G+1))
 case atStart=>exact⟨aC,0,0,none,0,0,none,0,0,rfl,eC _,bh,bB,aL,E,ae,bj⟩
 case round =>
  clear aL E ae bj;obtain⟨o,j,x,X,k1,d1,X',k1',d1',rfl,hj,cz,be,aL,E,ae,aU⟩:=hrel;have av:=E.cell;have aw:=ae.cell
  by_cases hgo:o.isSome=true∧j<K
  ·obtain⟨⟨⟨rs,cs⟩,rfl⟩,dj⟩:(∃ q,o=some q)∧j<K:=⟨Option.isSome_iff_exists.1 hgo.1,hgo.2⟩;clear hgo;obtain⟨hI,ao⟩:=cz.out rs cs rfl;have cR:(j:Int)<(K:Int):=oM;have an:=E.frozen;have a9:Blk (wr.setCell ⟨G+1,5,none⟩ (.int .i64 ((j:Int)+1))) (G+1) 42 #[.int .i64 2,.int .i64 0,.slice none 0 0,.slice none 0 0,.string ⟨#[]⟩,.int .i64 ((j:Int)+1)]:=by
    simpa using E.ab 5 (.int .i64 ((j:Int)+1))
   have br:Frm (fun b=>b=G+1) wr (wr.setCell ⟨G+1,5,none⟩ (.int .i64 ((j:Int)+1))):=eB wr _ 5 _;have ba:=ae.frm br oM;have bV:=aL.far E br oM dM;have aT:=aU.setCell (p:=⟨G+1,5,none⟩) (by dsimp only;omega) (.int .i64 ((j:Int)+1));go_upto_region 10 with fail
   have b0:=za (roAt_blk E);clear av aw an aL E ae aU br;generalize wr.setCell ⟨G+1,5,none⟩ (.int .i64 ((j:Int)+1))=wA at *;obtain⟨nr,nc,R,cr,C,cc,am,ai,ah,bW⟩:=bV;obtain⟨oR,oC⟩:=bW rs cs rfl;have a4:=za (show TabAt wA R nr C nc rs cs from ⟨_,_,_,_,eW oR,eW oC⟩);have bx:=am.cell;have bm:=bG wA aT;have bo:=za hI;have bd:=za ao;have a0:=za (zbs hI ao bg.lt);clear hI ao bW;go_upto_region 11 with (first
    |(go_at_call 58;refine (cq.out _ _ _ _ _ _ rs cs _ aT a4.out bo.out ai ah bd.out).mono ?_;rintro e wB ⟨Y,q1,e1,Y',I,D,rfl,aq,b7⟩))
   obtain⟨f,bc⟩:∃ f,Hid (zcN L (zo s p L) rs cs=f):=⟨_,rfl⟩;rw [bc.out] at aq a0 ⊢;generalize U0:wB.alloc _=wC at *;have ca:=Ext.al_ U0;have bN:=eS U0;have aO:=aq.ext ca;clear U0;have T:=b7.trans ca;have F:=ba.ext T;have a7:=a9.ext T;have a5:=am.ext T;have bA:=zh oR T;have bz:=zh oC T;have aw:=F.cell;have cw:=F.frozen;have cC:=bN.cell;have ap:=zZ wC (G+1+1) (.int .i64 f.al) (.slice Y q1 e1) (.slice Y' I D);have aG:=zaf F rfl (.int .i64 f.al) (.slice Y q1 e1) (.slice Y' I D);have a8:=a7.frm ap oM;have a6:=a5.frm ap oM;have cg:=zf bA ap (fun b hv e=>zr bA F dM hv e);have cf:=zf bz ap (fun b hv e=>zr bz F dM hv e);have ar:=aO.aq F ap dM;have aS:=((aT.trans T).frm ap (fun k hk e=>oM));have dl:=za (aT.trans b7).size;have dk:=za aT.size;clear F a7 a5 bA bz ap aO aq bN ba a9 am oR oC bx bm a4;go_upto_region 12 with fail
   generalize ((wC.setCell ⟨G+1+1,0,none⟩ f.al).setCell ⟨G+1+1,1,none⟩ (.slice Y q1 e1)).setCell ⟨G+1+1,2,none⟩ (.slice Y' I D)=wD at *;clear aw cw cC;have HJ:=za (zjP (c:=c) (d:=d) (d':=d') (c2:=c2) (d1:=e1) (d1':=D) (V.ext aS) (cp.out wD (aj.trans (a.trans aS))) ar.reads Hv.out.2.2 a0.out);have bS:=za (judgeT_size (L:=L) Hv.out.1 Hv.out.2.1 Hv.out.2.2 a0.out);obtain⟨J,hJ⟩:∃ J,Hid (zaP s p t L f=J):=⟨_,rfl⟩;rw [hJ.out] at HJ bS;have aw:=aG.cell;have cu:=cm wD aS;have cv:=bF wD aS;go_upto_region 13 with (first
    |(go_at_call 203;refine HJ.out.mono (mQ fun wE au=>?_)))
   have g:=aS.trans au;have Q:=aG.ext au;have l:=a8.ext au;have ad:=a6.ext au;have a2:=zh cg au;have a1:=zh cf au;have U:=ar.ext au;clear aw cu cv aG a8 a6 cg cf ar HJ;have z:=za (show (if J.2=0 then (⟨0,f,⟨#[]⟩,j+1⟩:Vd) else if J.2=1 then ⟨1,noA,zR [s,t] p,j+1⟩ else runT s t p L (K - (j+1)) (j+1) (zaB L (zo s p L) rs cs J.1))=ag by
    rw [← be.out,show K - j=(K - (j+1))+1 by omega];show _=runT s t p L ((K - (j+1))+1) j (some (rs,cs));rw [runT,bc.out,hJ.out])
   by_cases hJ0:J.2=0
   ·have aN:=za (show ag=⟨0,f,⟨#[]⟩,j+1⟩ by rw [← z.out,if_pos hJ0]);have av:=l.cell;have an:=l.frozen;have u:Blk (wE.setCell ⟨G+1,0,none⟩ (0:Int)) (G+1) 42 #[.int .i64 0,.int .i64 0,.slice none 0 0,.slice none 0 0,.string ⟨#[]⟩,.int .i64 ((j:Int)+1)]:=by
     simpa using l.ab 0 (.int .i64 0)
    have bs:Frm (fun b=>b=G+1) wE (wE.setCell ⟨G+1,0,none⟩ (0:Int)):=eB wE _ 0 _;have S:=Q.frm bs oM;have aP:=U.aq l bs dM;have ak:=g.setCell (p:=⟨G+1,0,none⟩) (by dsimp only;omega) (.int .i64 0);clear z ad Q a2 a1 bs U l;go_upto_region 16 with fail
    generalize wE.setCell ⟨G+1,0,none⟩ (0:Int)=wF at *;clear av an hJ0;have bI:=za (zfA (c:=e1) (c':=D) aP.reads (zcO a0.out));have aw:=S.cell;go_upto_region 17 with (first
     |(go_at_call 165;refine bI.out.mono ?_;rintro e wG ⟨Z1,z1,y1,Z2,z2,y2,rfl,aQ,aa⟩;have av:=(u.ext aa).cell;have an:=(u.ext aa).frozen))
    have O:=u.ext aa;have af:=S.ext aa;have i:Frm (fun b=>b=G+1) wG (((wG.setCell ⟨G+1,1,none⟩ f.al).setCell ⟨G+1,2,none⟩ (.slice Z1 z1 y1)).setCell ⟨G+1,3,none⟩ (.slice Z2 z2 y2)):=((eB wG _ 1 _).trans (eB _ _ 2 _)).trans (eB _ _ 3 _);have y:Blk (((wG.setCell ⟨G+1,1,none⟩ f.al).setCell ⟨G+1,2,none⟩ (.slice Z1 z1 y1)).setCell ⟨G+1,3,none⟩ (.slice Z2 z2 y2)) (G+1) 42 #[.int .i64 0,.int .i64 f.al,.slice Z1 z1 y1,.slice Z2 z2 y2,.string ⟨#[]⟩,.int .i64 ((j:Int)+1)]:=by
     simpa using ((O.ab 1 (.int .i64 f.al)).ab 2 (.slice Z1 z1 y1)).ab 3 (.slice Z2 z2 y2)
    have H:=af.frm i oM;have aR:=(aQ.aq O i dM).less (show w.heap.size<=wF.heap.size by have:=ak.size;have:=a.size;have:=aj.size;omega);have ab:=(ak.trans aa).frm i (fun k hk e=>oM);clear av an aw u S O af i aP aQ bI;generalize ((wG.setCell ⟨G+1,1,none⟩ f.al).setCell ⟨G+1,2,none⟩ (.slice Z1 z1 y1)).setCell ⟨G+1,3,none⟩ (.slice Z2 z2 y2)=wH at *;have hxw:=aj.trans (a.trans ab);have hb8:=b8.ext (a.trans ab);have hb9':=b9.ext (a.trans ab);obtain⟨f1,f2,f3⟩:=zhm (v:=⟨0,f,⟨#[]⟩,j+1⟩) (x:=f.al) (X:=Y) (k1:=q1) (d1:=e1) (X':=Y') (k1':=I) (d1':=D) hxw hb8 hb9' rfl rfl oM aR;have F1:=za (zdF.cast aN.out f1.out.drew);clear f1;simp only [iT,jY] at F1 f2 f3;have F2:=za f2;have F3:=za f3;clear f2 f3;have k8:=hb8.cell;have z8:=hb8.frozen;have k9:=hb9'.cell;have z9:=hb9'.frozen;have hne1:G+1≠Z:=oH a.size;have hne2:G+1+1≠Z:=oH a.size;have bC:∀ W,Frm (fun b=>b=Z) wH W->∀ q,W.cell? ⟨G+1,q,none⟩=#[Value.int .i64 0,.int .i64 f.al,.slice Z1 z1 y1,.slice Z2 z2 y2,.string ⟨#[]⟩,.int .i64 ((j:Int)+1)][q]?:=fun W hW=>(y.frm hW hne1).cell;have bD:∀ W,Frm (fun b=>b=Z) wH W->∀ q,W.cell? ⟨G+1+1,q,none⟩=#[Value.int .i64 f.al,.slice Y q1 e1,.slice Y' I D][q]?:=fun W hW=>(H.frm hW hne2).cell;have hS0:Frm (fun b=>b=Z) wH wH.drew:=⟨rfl,rfl,rfl,dI _,fun _ _ _=>rfl⟩;have hf8:=za (zdC wH Z (.int .i64 0) (.int .i64 f.al) (.slice Z1 z1 y1) (.slice Z2 z2 y2) (.string ⟨#[]⟩) (.int .i64 ((j:Int)+1)));clear y H aR hb8 hb9' hxw hne1 hne2;go_wp2_with fail
    refine zbp (fun Y=>Frm (fun b=>b=Z) wH Y) [3] (zw.of [0,1,2,3]) kM kM kM kM kM (fun _ _ _ _ _ h=>h) hS0 ?_;refine zbE (v:=?_) rfl rfl rfl rfl (fun X hX=>?_) ?_
    rotate_left
    focus (go_simp<;>with_reducible rfl)
    refine pT ?_;refine zbE (v:=?_) rfl rfl rfl rfl (fun X hX=>?_) ?_
    rotate_left
    focus (go_simp<;>with_reducible rfl)
    refine pT ?_;refine ze fun K hK=>?_;go_simp;refine hK.out _ _ hf8.out.drew ?_;refine pT ?_;refine zb fun K hK=>?_;go_simp;refine hK.out _ _ ?_;refine zg ?_;go_wp2_with fail
    have cf2:=F2.out.cell;have cf3:=F3.out.cell;exact bodyPost_ret (v:=.tuple #[.agg #[(0:Int),f.al,.slice Z1 z1 y1,.slice Z2 z2 y2,.string ⟨#[]⟩,((j:Int)+1:Int)],.agg #[f.al,.slice Y q1 e1,.slice Y' I D]]) (by simp [results,Tryz.results112,go_sem,cf2,cf3]) rfl F1.out
   ·by_cases hJ1:J.2=1
    ·have aN:=za (show ag=⟨1,noA,zR [s,t] p,j+1⟩ by rw [← z.out,if_neg hJ0,if_pos hJ1]);have HP:=za (bL.out wE (aj.trans (a.trans g)));have cS:=cl wE g;have cT:=bF wE g;have cP:∀ (v:Array Value) (q:Nat),(wE.alloc (.cells v 38)).cell? ⟨w.heap.size+1+1,q,none⟩=_:=fun v q=>ck _ (g.trans ((dE wE).alloc _)) q;clear hJ0 z ad a2 a1 U;go_upto_region 20 with (first
      |(go_at_call 150;refine HP.out.mono (mQ fun wF ak=>?_);clear cS cT cP))
     have u:=l.ext ak;have S:=Q.ext ak;have cb:=g.trans ak;have av:=u.cell;have an:=u.frozen;clear HP l Q;go_upto_region 22 with fail
     have i:Frm (fun b=>b=G+1) wF ((wF.setCell ⟨G+1,0,none⟩ (1:Int)).setCell ⟨G+1,4,none⟩ (.string (zR [s,t] p))):=(eB wF _ 0 _).trans (eB _ _ 4 _);have y:Blk ((wF.setCell ⟨G+1,0,none⟩ (1:Int)).setCell ⟨G+1,4,none⟩ (.string (zR [s,t] p))) (G+1) 42 #[.int .i64 1,.int .i64 0,.slice none 0 0,.slice none 0 0,.string (zR [s,t] p),.int .i64 ((j:Int)+1)]:=by
      simpa using (u.ab 0 (.int .i64 1)).ab 4 (.string (zR [s,t] p))
     have H:=S.frm i oM;have ab:=cb.frm i (fun k hk e=>oM);clear av an u S i hJ1;generalize (wF.setCell ⟨G+1,0,none⟩ (1:Int)).setCell ⟨G+1,4,none⟩ (.string (zR [s,t] p))=wH at *;have hxw:=aj.trans (a.trans ab);have hb8:=b8.ext (a.trans ab);have hb9':=b9.ext (a.trans ab);obtain⟨f1,f2,f3⟩:=zhm (v:=⟨1,noA,zR [s,t] p,j+1⟩) (A:=none) (n:=0) (c:=0) (A':=none) (n':=0) (c':=0) (x:=f.al) (X:=Y) (k1:=q1) (d1:=e1) (X':=Y') (k1':=I) (d1':=D) hxw hb8 hb9' rfl rfl oM (⟨⟨[],World.ownsRow_nil _ _ _ _,zC.nil _ _⟩,rfl,World.ownsRow_nil _ _ _ _,rfl⟩:zN wH w.heap.size none 0 0 none 0 0 noA);have F1:=za (zdF.cast aN.out f1.out.drew);clear f1;simp only [noA,iT,jY] at F1 f2 f3;have F2:=za f2;have F3:=za f3;clear f2 f3;have k8:=hb8.cell;have z8:=hb8.frozen;have k9:=hb9'.cell;have z9:=hb9'.frozen;have hne1:G+1≠Z:=oH a.size;have hne2:G+1+1≠Z:=oH a.size;have bC:∀ W,Frm (fun b=>b=Z) wH W->∀ q,W.cell? ⟨G+1,q,none⟩=#[Value.int .i64 1,.int .i64 0,.slice none 0 0,.slice none 0 0,.string (zR [s,t] p),.int .i64 ((j:Int)+1)][q]?:=fun W hW=>(y.frm hW hne1).cell;have bD:∀ W,Frm (fun b=>b=Z) wH W->∀ q,W.cell? ⟨G+1+1,q,none⟩=#[Value.int .i64 f.al,.slice Y q1 e1,.slice Y' I D][q]?:=fun W hW=>(H.frm hW hne2).cell;have hS0:Frm (fun b=>b=Z) wH wH.drew:=⟨rfl,rfl,rfl,dI _,fun _ _ _=>rfl⟩;have hf8:=za (zdC wH Z (.int .i64 1) (.int .i64 0) (.slice none 0 0) (.slice none 0 0) (.string (zR [s,t] p)) (.int .i64 ((j:Int)+1)));clear y H hb8 hb9' hxw hne1 hne2;go_wp2_with fail
     refine zbp (fun Y=>Frm (fun b=>b=Z) wH Y) [3] (zw.of [0,1,2,3]) kM kM kM kM kM (fun _ _ _ _ _ h=>h) hS0 ?_;refine zbE (v:=?_) rfl rfl rfl rfl (fun X hX=>?_) ?_
     rotate_left
     focus (go_simp<;>with_reducible rfl)
     refine pT ?_;refine zbE (v:=?_) rfl rfl rfl rfl (fun X hX=>?_) ?_
     rotate_left
     focus (go_simp<;>with_reducible rfl)
     refine pT ?_;refine ze fun K hK=>?_;go_simp;refine hK.out _ _ hf8.out.drew ?_;refine pT ?_;refine zb fun K hK=>?_;go_simp;refine hK.out _ _ ?_;refine zg ?_;go_wp2_with fail
     have cf2:=F2.out.cell;have cf3:=F3.out.cell;exact bodyPost_ret (v:=.tuple #[.agg #[(1:Int),(0:Int),(),(),.string (zR [s,t] p),((j:Int)+1:Int)],.agg #[f.al,.slice Y q1 e1,.slice Y' I D]]) (by simp [results,Tryz.results112,go_sem,cf2,cf3]) rfl F1.out
    ·have e0:(J.2==0)=false:=by simpa using hJ0
     have e2:(J.2==1)=false:=by simpa using hJ1
     have bu:=za (show runT s t p L (K - (j+1)) (j+1) (zaB L (zo s p L) rs cs J.1)=ag by
      have:=z.out;rw [if_neg hJ0,if_neg hJ1] at this;exact this)
     clear hJ0 hJ1 z;have bm:=bG wE g;have bx:=ad.cell;have bl:=za (show TabAt wE R nr C nc rs cs from ⟨_,_,_,_,eW a2,eW a1⟩);go_upto_region 24 with (first
      |(go_at_call 64;refine (co.out _ _ _ _ _ _ rs cs J.1 _ g bl.out bo.out ai ah bd.out (oH bS.out)).mono ?_;intro e wF hret;obtain⟨ak,aW,aV,R2,aI,C2,aH,rfl,bY,bX,bp⟩:=hret.fill (w0:=w2) g.size;clear hret))
     have b4:=za (zex.ao bo.out J.1);generalize zaB L (zo s p L) rs cs J.1=oL at *;generalize U0:wF.alloc _=wG at *;have aa:=Ext.al_ U0;have bO:=eS U0;clear U0;have aA:=ak.trans aa;have M:=ad.ext aA;have O:=l.ext aA;have af:=Q.ext aA;have cd:=g.trans aA;have cD:=bO.cell;have ce:=M.cell;have bQ:=M.frozen;have i:Frm (fun b=>b=G) wG ((wG.setCell G (.slice R2 aW aI)).setCell ⟨G,1,none⟩ (.slice C2 aV aH)):=(eB wG _ 0 _).trans (eB _ _ 1 _);have bU:TabM w2 ((wG.setCell G (.slice R2 aW aI)).setCell ⟨G,1,none⟩ (.slice C2 aV aH)) G oL:=
      ⟨aW,aV,R2,aI,C2,aH,by simpa using (M.ab 0 (.slice R2 aW aI)).ab 1 (.slice C2 aV aH),bY,bX,fun rs' cs' e=>by
       have h1:=zh (bp rs' cs' e).1 aa;have h2:=zh (bp rs' cs' e).2 aa;exact⟨zf h1 i (fun b hv e'=>zr h1 M dM hv e'),zf h2 i (fun b hv e'=>zr h2 M dM hv e')⟩⟩
     have y:=O.frm i oM;have H:=af.frm i oM;have ab:=cd.frm i (fun k hk e=>oM);clear bm bx ad l Q a2 a1 U M O af i bO bp;go_upto_region 25 with fail
     generalize (wG.setCell G (.slice R2 aW aI)).setCell ⟨G,1,none⟩ (.slice C2 aV aH)=wH at *;clear cD ce bQ;have bZ:((j:Int)+1)=((j+1:Nat):Int):=oM;rw [bZ] at y;have bt:=za (roAt_blk y);clear bZ;go_wp2_with fail
     go_roundw
     case rel=>exact⟨oL,j+1,f.al,Y,q1,e1,Y',I,D,rfl,oM,b4,bu,bU,y,H,ab⟩
     case measure=>have h1:=b0.out;have h2:=bt.out;omega
  ·have aN:=za (show ag=⟨2,noA,⟨#[]⟩,j⟩ by
    rw [← be.out];exact runT_end hgo)
   have hb8:=(b8.ext (a.trans aU));have hb9':=(b9.ext (a.trans aU));have hon:zN wr w.heap.size none 0 0 none 0 0 noA:=⟨⟨[],World.ownsRow_nil _ _ _ _,zC.nil _ _⟩,rfl,World.ownsRow_nil _ _ _ _,rfl⟩;have hflag:(o.isSome&&decide ((j:Int)<(K:Int)))=false:=by
    rw [Bool.eq_false_iff];intro h;simp only [eD,decide_eq_true_eq] at h;exact hgo ⟨h.1,oM⟩
   have hxw:=aj.trans (a.trans aU);have hd:Ext wr wr.drew:=(dE wr).drew;obtain⟨f1,f2,f3⟩:=zhm (v:=⟨2,noA,⟨#[]⟩,j⟩) (x:=x) (X:=X) (k1:=k1) (d1:=d1) (X':=X') (k1':=k1') (d1':=d1') hxw hb8 hb9' rfl rfl oM hon;have F1:=za (zdF.cast aN.out f1.out.drew);clear f1;simp only [noA] at F1 f2 f3;have F2:=za f2;have F3:=za f3;clear f2 f3;have k8:=hb8.cell;have z8:=hb8.frozen;have k9:=hb9'.cell;have z9:=hb9'.frozen;have dm:=aj.size;have hne1:G+1≠Z:=oH a.size;have hne2:G+1+1≠Z:=oH a.size;have bC:∀ W,Frm (fun b=>b=Z) wr W->∀ q,W.cell? ⟨G+1,q,none⟩=#[Value.int .i64 2,.int .i64 0,.slice none 0 0,.slice none 0 0,.string ⟨#[]⟩,.int .i64 j][q]?:=fun W hW=>(E.frm hW hne1).cell;have bD:∀ W,Frm (fun b=>b=Z) wr W->∀ q,W.cell? ⟨G+1+1,q,none⟩=#[Value.int .i64 x,.slice X k1 d1,.slice X' k1' d1'][q]?:=fun W hW=>(ae.frm hW hne2).cell;have hS0:Frm (fun b=>b=Z) wr wr.drew:=⟨rfl,rfl,rfl,dI _,fun _ _ _=>rfl⟩;have hf8:=za (zdC wr (Z) (.int .i64 2) (.int .i64 0) (.slice none 0 0) (.slice none 0 0) (.string ⟨#[]⟩) (.int .i64 j));cases ho:o.isSome
   ·have Ho:=za ho;rw [ho] at hflag;exact yY13a1
   ·have cU:¬ ((j:Int)<(K:Int)):=fun h=>hgo ⟨ho,oM⟩;have Ho:=za ho;exact yY13a1
end
def zji (w:World) (v:Vd) (e:Ending) (w':World):Prop:=
 ∃ (A:Option Addr) (n c:Nat) (A':Option Addr) (n' c':Nat),
  e=.returned (.agg #[v.code,v.asm.al,.slice A n c,.slice A' n' c',v.tr,v.ro])∧zN w' w.heap.size A n c A' n' c' v.asm∧Ext w w'
section
variable {w:World} {lo hi n c lo1 hi1 m d m' d' lo2 hi2 k c2:Nat} {A B B' C:Option Addr} {s t:Sys} {p:Aut}
theorem zdy {v:Vd} (HR:Hid (∀ W,Ext w W->Calls Tryz.prog 112 #[.agg #[s.al,s.st,.slice A n c],.agg #[t.al,t.st,.slice C k c2],.agg #[p.al,.slice B m d,.slice B' m' d'],(12:Int)] W (zdF W v))) :
  Calls Tryz.prog 42 #[.agg #[s.al,s.st,.slice A n c],.agg #[t.al,t.st,.slice C k c2],.agg #[p.al,.slice B m d,.slice B' m' d']] w
   (zji w v):=by
 obtain⟨J,U0⟩:∃ x,Hid ((((w.alloc (.cells #[s.al,s.st,.slice A n c] 38)).alloc (.cells #[t.al,t.st,.slice C k c2] 38)).alloc (.cells #[p.al,.slice B m d,.slice B' m' d'] 27)).alloc (.cells #[(0:Int),(0:Int),(),(),.string ⟨#[]⟩,(0:Int)] 42)=x):=⟨_,za rfl⟩;have j:Ext w J:=(((((dE _).alloc _).alloc _).alloc _).alloc _).trans (gO U0.out);obtain⟨M,O,Q⟩:=zU (((dE _).alloc _).trans (gO U0.out));have I:=eS U0.out;simp only [World.size_alloc] at I
 go_enter Tryz.func42,Tryz.ntmps42
 go_upto_region 1 with fail
 rw [U0.out] at *;have S:=M.cell;have D:=O.cell;have T:=Q.cell;go_upto_region 2 with (first
  |(go_at_call 112;refine (HR.out J j).mono ?_;rintro e H ⟨b,h,k1,f,i,g,x,X,U,d1,X',G,d1',rfl,ho,y⟩;clear S D T))
 have R:=(eX H 42 #[v.code,v.asm.al,.slice b h k1,.slice f i g,v.tr,v.ro]).ext ((dE _).alloc (.cells #[x,.slice X U d1,.slice X' G d1'] 27));generalize U0:(H.alloc _).alloc _=L at *;have l:=((dE H).alloc (.cells #[v.code,v.asm.al,.slice b h k1,.slice f i g,v.tr,v.ro] 42)).trans (Ext.al_ U0);clear U0;have a:=I.ext (y.trans l);have Z:=R.cell;have Y:=a.cell;have V:=a.frozen;have q:=ho.ext l;have F:=zdC L (w.heap.size+1+1+1) (.int .i64 v.code) (.int .i64 v.asm.al) (.slice b h k1) (.slice f i g) (.string v.tr) (.int .i64 v.ro);have o:Blk ((((((L.setCell ⟨w.heap.size+1+1+1,0,none⟩ v.code).setCell ⟨w.heap.size+1+1+1,1,none⟩ v.asm.al).setCell ⟨w.heap.size+1+1+1,2,none⟩ (.slice b h k1)).setCell ⟨w.heap.size+1+1+1,3,none⟩ (.slice f i g)).setCell ⟨w.heap.size+1+1+1,4,none⟩ v.tr).setCell ⟨w.heap.size+1+1+1,5,none⟩ v.ro) (w.heap.size+1+1+1) 42 #[.int .i64 v.code,.int .i64 v.asm.al,.slice b h k1,.slice f i g,.string v.tr,.int .i64 v.ro]:=by
  simpa using (((((a.ab 0 (.int .i64 v.code)).ab 1 (.int .i64 v.asm.al)).ab 2 (.slice b h k1)).ab 3 (.slice f i g)).ab 4 (.string v.tr)).ab 5 (.int .i64 v.ro)
 have r:=(q.aq a F dM).less j.size;have z:=(j.trans (y.trans l)).frm F (fun k hk e=>oM);have u:=za (show zji w v (.returned (.agg #[v.code,v.asm.al,.slice b h k1,.slice f i g,v.tr,v.ro])) _ from ⟨b,h,k1,f,i,g,rfl,r,z⟩);have E:=za o;clear a q ho r z F o;go_wp2_with fail
 have E:=E.out.cell;exact bodyPost_ret (v:=.agg #[v.code,v.asm.al,.slice b h k1,.slice f i g,v.tr,v.ro]) (by simp [results,Tryz.results42,go_sem,E]) rfl u.out
theorem zhX (hs:zV w lo hi A n s)(hp:zF w lo1 hi1 B m B' m' p)(ht:zV w lo2 hi2 C k t)(hif:iface s p t=(L:Int))(hn:n<=1000000)(hhi:hi<=w.heap.size) :
  Calls Tryz.prog 42 #[.agg #[s.al,s.st,.slice A n c],.agg #[t.al,t.st,.slice C k c2],.agg #[p.al,.slice B m d,.slice B' m' d']] w
   (zji w (runT s t p L 12 0 ((zX L (zo s p L) [⟨#[]⟩] 11 [⟨#[]⟩]).map fun r=>(r,[⟨#[]⟩])))):=
 zdy (za (fun W (hW:Ext w W)=>spec_l12Run (K:=12) (hs.ext hW) (hp.ext hW) (ht.ext hW) hif hn (eI hhi hW.size) oM))
end
theorem runT_size (hL:L<64)(hst:zy [s,t]=true)(hp:zj p=true) (f:Nat):∀ (k:Nat) (o:Option (List ByteArray × List ByteArray)),zex L (zo s p L) o->(runT s t p L f k o).asm.size<=1048576∧(runT s t p L f k o).tr.size<=4000:=by
 induction f with
 |zero=>exact fun k o _=>⟨by show noA.size<=_;decide,eC _⟩
 |succ f ih =>
  intro k o ho
  match o with
  |none=>exact⟨by show noA.size<=_;decide,eC _⟩
  |some (rs,cs) =>
   obtain⟨b,a⟩:=ho rs cs rfl;rw [runT];split
   ·exact⟨zcO (zbs b a hL),eC _⟩
   ·split
    ·refine⟨by show noA.size<=_;decide,?_⟩;have h:=(zcX hst hp).2;have c:16 ^ [s,t].length*12=3072:=sM;show (zR [s,t] p).size<=4000;omega
    ·exact ih _ _ (zex.ao b _)
theorem tot_cons (l:List Int) (r:List (List Int)):tot (l :: r)=l.length+tot r:=by simp [tot]
theorem zC.ab {w':World} {base:Nat} {rows:List Value} {ls:List (List Int)}   {l:List Int}(h:zC w base rows ls)(hr:rows[j]?=some (.slice A l.length c))
  (hf:Frm (blk A) w w') (zkf:w'.ownsRow base 3 1 (.slice A l.length c) l.length (ints l)):zC w' base rows (ls.set j l):=by
 have d:j<rows.length:=(List.getElem?_eq_some_iff.1 hr).1;refine⟨by simp [h.1],fun i row m hi hm=>?_,h.2.2⟩
 by_cases hij:i=j
 ·subst hij;rw [hr] at hi;obtain rfl:=Option.some.inj hi;rw [List.getElem?_set_self (by rw [← h.1];exact d)] at hm;obtain rfl:=Option.some.inj hm;exact zkf
 ·rw [List.getElem?_set_ne (fun e=>hij e.symm)] at hm;refine zf (h.2.1 i row m hi hm) hf (fun b hb hS=>?_);obtain⟨a,rfl,rfl⟩:=hS;exact h.2.2 i j row _ a.block hi hr hij hb rfl
def OwnLLh (w:World) (base hi:Nat) (v:Value) (ls:List (List Int)):Prop:=
 ∃ rows,w.ownsRow base 110 1 v ls.length rows∧zC w base rows ls∧∀ (i:Nat) (row:Value) (b:Nat),rows[i]?=some row->row.ownBlock=some b->b<hi
def AutH (w:World) (base hi:Nat) (A:Option Addr) (n c:Nat) (A':Option Addr) (n' c':Nat) (a:Aut):Prop:=
 OwnLLh w base hi (.slice A n c) a.next∧(∀ b,(Value.slice A n c).ownBlock=some b->b<hi)∧n=a.next.length∧w.ownsRow base 4 1 (.slice A' n' c') n' (zak a.acc)∧(∀ b,(Value.slice A' n' c').ownBlock=some b->b<hi)∧n'=a.acc.length
section
variable {w w':World} {base hi n c n' c':Nat} {A A':Option Addr} {a:Aut}
theorem zN.high (h:zN w base A n c A' n' c' a):AutH w base w.heap.size A n c A' n' c' a:=by
 obtain⟨⟨d,f,g⟩,k,j,m⟩:=h;exact⟨⟨d,f,g,fun i row b hr hb=>by
  obtain⟨l,_,ho⟩:=g.row hr;exact (ho.lt b hb).2⟩,fun b hb=>(f.lt b hb).2,k,j,fun b hb=>(j.lt b hb).2,m⟩
theorem AutH.own (h:AutH w base hi A n c A' n' c' a):zN w base A n c A' n' c' a:=by
 obtain⟨⟨b,d,f,_⟩,_,g,i,_,j⟩:=h;exact⟨⟨b,d,f⟩,g,i,j⟩
theorem AutH.frm (h:AutH w base hi A n c A' n' c' a)(hb:Frm S w w')(hS:∀ b,base<=b->b<hi->¬ S b):AutH w' base hi A n c A' n' c' a:=by
 obtain⟨⟨d,f,g,k⟩,m,p,j,o,q⟩:=h;exact⟨⟨d,zf f hb (fun b hb=>hS b (f.lt b hb).1 (m b hb)),g.frm hb (fun i row b hr hb=>by
  obtain⟨l,_,ho⟩:=g.row hr;exact hS b (ho.lt b hb).1 (k i row b hr hb)),k⟩,m,p,zf j hb (fun b hb=>hS b (j.lt b hb).1 (o b hb)),o,q⟩
theorem AutH.ext (h:AutH w base hi A n c A' n' c' a)(hb:Ext w w'):AutH w' base hi A n c A' n' c' a:=h.frm hb (fun _ _ _ h=>h)
end
def aut0:Aut:=⟨0,[],[]⟩
theorem own_aut0 (w:World) (base:Nat):zN w base none 0 0 none 0 0 aut0:=⟨⟨[],World.ownsRow_nil _ _ _ _,zC.nil _ _⟩,rfl,World.ownsRow_nil _ _ _ _,rfl⟩
theorem zcn (s t:Sys) (p:Aut):iface s p t = -1∨∃ L:Nat,iface s p t=(L:Int):=by
 unfold iface;split
 ·exact .inr ⟨_,rfl⟩
 ·exact .inl rfl
section
variable {w:World} {lo hi n c lo1 hi1 m d m' d' lo2 hi2 k c2:Nat} {A B B' C:Option Addr} {s t:Sys} {p:Aut}
theorem spec_TaskOf0 (hs:zV w lo hi A n s)(hp:zF w lo1 hi1 B m B' m' p)(ht:zV w lo2 hi2 C k t)(hif:iface s p t = -1) :
  Calls Tryz.prog 202 #[.agg #[s.al,s.st,.slice A n c],.agg #[p.al,.slice B m d,.slice B' m' d'],.agg #[t.al,t.st,.slice C k c2]] w
   fun e w'=>e=.returned (.tuple #[.agg #[(0:Int),(0:Int),(),(0:Int),(),(),(0:Int)],.bool false])∧Ext w w':=by
 have b:=za (fun W (hW:Ext w W)=>zet (c:=c) (d1:=d) (d1':=d') (c2:=c2) (hs.ext hW) (hp.ext hW) (ht.ext hW));rw [hif] at b;clear hs hp ht hif;obtain⟨l,U0⟩:∃ x,Hid ((((w.alloc (.cells #[s.al,s.st,.slice A n c] 38)).alloc (.cells #[p.al,.slice B m d,.slice B' m' d'] 27)).alloc (.cells #[t.al,t.st,.slice C k c2] 38)).alloc (.cells #[(0:Int),(0:Int),(),(0:Int),(),(),(0:Int)] 70)=x):=⟨_,za rfl⟩;have g:Ext w l:=(((((dE _).alloc _).alloc _).alloc _).alloc _).trans (gO U0.out);obtain⟨o,q,r⟩:=zU (((dE _).alloc _).trans (gO U0.out));have j:=eS U0.out;simp only [World.size_alloc] at j
 go_enter Tryz.func202,Tryz.ntmps202
 go_upto_region 1 with fail
 rw [U0.out] at *;have F:=o.cells;have E:=q.cells;have G:=r.cells;have D:=dE l;go_upto_region 3 with (first
  |(go_at_call 95;refine (b.out _ g).mono (mQ fun h a=>?_)))
 have i:=j.ext a;have I:=i.cell;have H:=i.frozen;have hxw:=g.trans a;have z:Frm (fun k=>k=w.heap.size+1+1+1) h (((((((h.setCell ⟨w.heap.size+1+1+1,0,none⟩ (0:Int)).setCell ⟨w.heap.size+1+1+1,1,none⟩ (0:Int)).setCell ⟨w.heap.size+1+1+1,2,none⟩ ()).setCell ⟨w.heap.size+1+1+1,3,none⟩ (0:Int)).setCell ⟨w.heap.size+1+1+1,4,none⟩ ()).setCell ⟨w.heap.size+1+1+1,5,none⟩ ()).setCell ⟨w.heap.size+1+1+1,6,none⟩ (0:Int)):=
  ((((((eB h _ 0 _).trans (eB _ _ 1 _)).trans (eB _ _ 2 _)).trans (eB _ _ 3 _)).trans (eB _ _ 4 _)).trans (eB _ _ 5 _)).trans (eB _ _ 6 _)
 have u:Blk (((((((h.setCell ⟨w.heap.size+1+1+1,0,none⟩ (0:Int)).setCell ⟨w.heap.size+1+1+1,1,none⟩ (0:Int)).setCell ⟨w.heap.size+1+1+1,2,none⟩ ()).setCell ⟨w.heap.size+1+1+1,3,none⟩ (0:Int)).setCell ⟨w.heap.size+1+1+1,4,none⟩ ()).setCell ⟨w.heap.size+1+1+1,5,none⟩ ()).setCell ⟨w.heap.size+1+1+1,6,none⟩ (0:Int)) (w.heap.size+1+1+1) 70 #[.int .i64 0,.int .i64 0,.slice none 0 0,.int .i64 0,.slice none 0 0,.slice none 0 0,.int .i64 0]:=by
  simpa using ((((((i.ab 0 (.int .i64 0)).ab 1 (.int .i64 0)).ab 2 (.slice none 0 0)).ab 3 (.int .i64 0)).ab 4 (.slice none 0 0)).ab 5 (.slice none 0 0)).ab 6 (.int .i64 0)
 have f:=za (hxw.frm z (fun k hk e=>oM));go_wp2_with fail
 generalize (((((((h.setCell ⟨w.heap.size+1+1+1,0,none⟩ (0:Int)).setCell ⟨w.heap.size+1+1+1,1,none⟩ (0:Int)).setCell ⟨w.heap.size+1+1+1,2,none⟩ ()).setCell ⟨w.heap.size+1+1+1,3,none⟩ (0:Int)).setCell ⟨w.heap.size+1+1+1,4,none⟩ ()).setCell ⟨w.heap.size+1+1+1,5,none⟩ ()).setCell ⟨w.heap.size+1+1+1,6,none⟩ (0:Int))=W at *;have y:=u.cell;exact bodyPost_ret (v:=.tuple #[.agg #[(0:Int),(0:Int),(),(0:Int),(),(),(0:Int)],.bool false]) (by simp [results,Tryz.results202,go_sem,y]) rfl ⟨rfl,f.out⟩
theorem spec_l12Run0 (hs:zV w lo hi A n s)(hp:zF w lo1 hi1 B m B' m' p)(ht:zV w lo2 hi2 C k t)(hif:iface s p t = -1) :
  Calls Tryz.prog 112 #[.agg #[s.al,s.st,.slice A n c],.agg #[t.al,t.st,.slice C k c2],.agg #[p.al,.slice B m d,.slice B' m' d'],K] w (zdF w ⟨3,noA,⟨#[]⟩,0⟩):=by
 have E:=za (fun W (hW:Ext w W)=>spec_TaskOf0 (c:=c) (d:=d) (d':=d') (c2:=c2) (hs.ext hW) (hp.ext hW) (ht.ext hW) hif);clear hs hp ht hif;obtain⟨q,U0⟩:∃ x,Hid (((((w.alloc (.cells #[s.al,s.st,.slice A n c] 38)).alloc (.cells #[t.al,t.st,.slice C k c2] 38)).alloc (.cells #[p.al,.slice B m d,.slice B' m' d'] 27)).alloc (.cells #[(0:Int),(0:Int),(),(),.string ⟨#[]⟩,(0:Int)] 42)).alloc (.cells #[(0:Int),(),()] 27)=x):=⟨_,za rfl⟩;have b:Ext w q:=((((((dE _).alloc _).alloc _).alloc _).alloc _).alloc _).trans (gO U0.out);obtain⟨r,u,y⟩:=zU ((((dE _).alloc _).alloc _).trans (gO U0.out));have i:=(eX (((w.alloc (.cells #[s.al,s.st,.slice A n c] 38)).alloc (.cells #[t.al,t.st,.slice C k c2] 38)).alloc (.cells #[p.al,.slice B m d,.slice B' m' d'] 27)) 42 #[(0:Int),(0:Int),(),(),.string ⟨#[]⟩,(0:Int)]).ext ((dE _).alloc (.cells #[(0:Int),(),()] 27));have j:=eS U0.out;simp only [World.size_alloc] at i j
 go_enter Tryz.func112,Tryz.ntmps112
 go_upto_region 1 with fail
 rw [U0.out] at *;have I:=r.cells;have J:=u.cells;have H:=y.cells;have F:=dE q;go_upto_region 2 with (first
  |(go_at_call 202;refine (E.out _ b).mono (mQ fun G f=>?_)))
 generalize U0:G.alloc _=D at *;have a:Ext q D:=(f.alloc _).trans (gO U0);clear U0;have h:=i.ext a;have Q:=h.cell;have M:=h.frozen;have g:=j.ext a;have O:=g.cell;have L:=g.frozen;obtain⟨z,l,o⟩:=zhm (v:=⟨3,noA,⟨#[]⟩,0⟩) (A:=none) (n:=0) (c:=0) (A':=none) (n':=0) (c':=0) (x:=0) (X:=none) (k1:=0) (d1:=0) (X':=none) (k1':=0) (d1':=0) (b.trans a) h g rfl rfl oM (own_aut0 _ _);dsimp only [noA] at z l o;have F2:=za l;have F3:=za o;clear l o h g r u y i j;go_wp2_with fail
 generalize (((((((((D.setCell ⟨w.heap.size+1+1+1,0,none⟩ (3:Int)).setCell ⟨w.heap.size+1+1+1,1,none⟩ (0:Int)).setCell ⟨w.heap.size+1+1+1,2,none⟩ ()).setCell ⟨w.heap.size+1+1+1,3,none⟩ ()).setCell ⟨w.heap.size+1+1+1,4,none⟩ (.string ⟨#[]⟩)).setCell ⟨w.heap.size+1+1+1,5,none⟩ (0:Int)).setCell ⟨w.heap.size+1+1+1+1,0,none⟩ (0:Int)).setCell ⟨w.heap.size+1+1+1+1,1,none⟩ ()).setCell ⟨w.heap.size+1+1+1+1,2,none⟩ ())=W at *;have cf2:=F2.out.cell;have cf3:=F3.out.cell;exact bodyPost_ret (v:=.tuple #[.agg #[(3:Int),(0:Int),(),(),.string ⟨#[]⟩,(0:Int)],.agg #[(0:Int),(),()]]) (by simp [results,Tryz.results112,go_sem,cf2,cf3]) rfl z.out
end
noncomputable def vpT (s t:Sys) (p:Aut):Vd:=
 if iface s p t<0 then ⟨3,noA,⟨#[]⟩,0⟩ else runT s t p (iface s p t).toNat 12 0 ((zX (iface s p t).toNat (zo s p (iface s p t).toNat) [⟨#[]⟩] 11 [⟨#[]⟩]).map fun r=>(r,[⟨#[]⟩]))
theorem zgC (h:iface s p t = -1):vpT s t p=⟨3,noA,⟨#[]⟩,0⟩:=by unfold vpT;rw [if_pos oM]
theorem zgD (h:iface s p t=(L:Int)):vpT s t p=runT s t p L 12 0 ((zX L (zo s p L) [⟨#[]⟩] 11 [⟨#[]⟩]).map fun r=>(r,[⟨#[]⟩])):=by
 have e:(iface s p t).toNat=L:=oM;unfold vpT;rw [if_neg oM,e]
theorem iface_lt (h:iface s p t=(L:Int)):L<64:=by
 obtain⟨c,b,a⟩:=zbz (show 0<=iface s p t by omega);rw [zda c b a] at h;have d:=zG a;have f:((s.al.toNat|||p.al.toNat)&&&t.al.toNat)<=t.al.toNat:=Nat.and_le_right;omega
theorem vpT_size (s t:Sys) (p:Aut):(vpT s t p).asm.size<=1048576∧(vpT s t p).tr.size<=4000:=by
 rcases zcn s t p with h|⟨L,h⟩
 ·rw [zgC h];exact⟨by show noA.size<=_;decide,eC _⟩
 ·rw [zgD h];obtain⟨b,a,c⟩:=zbz (show 0<=iface s p t by omega);exact runT_size (iface_lt h) (by simp [zy,b,c]) a 12 0 _ (zex.new L _)
section
variable {w:World} {lo hi n c lo1 hi1 m d m' d' lo2 hi2 k c2:Nat} {A B B' C:Option Addr} {s t:Sys} {p:Aut}
theorem zgW (hs:zV w lo hi A n s)(hp:zF w lo1 hi1 B m B' m' p)(ht:zV w lo2 hi2 C k t)(hn:n<=1000000)(hhi:hi<=w.heap.size) :
  Calls Tryz.prog 42 #[.agg #[s.al,s.st,.slice A n c],.agg #[t.al,t.st,.slice C k c2],.agg #[p.al,.slice B m d,.slice B' m' d']] w
   (zji w (vpT s t p)):=by
 rcases zcn s t p with h|⟨L,h⟩
 ·rw [zgC h];exact zdy (za (fun W (hW:Ext w W)=>spec_l12Run0 (K:=12) (hs.ext hW) (hp.ext hW) (ht.ext hW) h))
 ·rw [zgD h];exact zhX hs hp ht h hn hhi
end
theorem valid_len (h:zk s=true):s.edges.length<=1536:=by
 unfold zk at h;simp only [eD,decide_eq_true_eq,fH] at h;obtain⟨-,⟨C,D⟩,f⟩:=h;have j:∀ (k:Nat) (e:Edg),s.edges[k]?=some e->(k:Int)<=(e.fr*6+e.le)*16+e.ta∧(e.fr*6+e.le)*16+e.ta<1536:=by
  intro k
  induction k with
  |zero =>
   intro e he;have:=f 0 (List.mem_range.2 (List.getElem?_eq_some_iff.1 he).1);unfold zbn at this;rw [he] at this;simp only [edgB,eD,decide_eq_true_eq] at this;obtain⟨⟨⟨m,n⟩,⟨o,p⟩,r,c⟩,-⟩:=this;unfold hasB at c;simp only [eD,decide_eq_true_eq] at c;omega
  |succ k ih =>
   intro e he;have t:=(List.getElem?_eq_some_iff.1 he).1;have:=f (k+1) (List.mem_range.2 t);unfold zbn at this;rw [he] at this;obtain⟨q,i⟩:∃ q,s.edges[k]?=some q:=⟨_,dH oM⟩;have u:=ih q i;rw [show k+1 - 1=k by omega,i] at this;simp only [edgB,eD,iC,decide_eq_true_eq] at this;obtain⟨⟨⟨m,n⟩,⟨o,p⟩,r,c⟩,d⟩:=this;unfold hasB at c;simp only [eD,decide_eq_true_eq] at c;have a:=d.resolve_left oM;have b:=f k (List.mem_range.2 oM);unfold zbn at b;rw [i] at b;simp only [edgB,eD,iC,decide_eq_true_eq] at b;obtain⟨⟨⟨v,x⟩,⟨y,z⟩,B,l⟩,-⟩:=b;unfold hasB at l;simp only [eD,decide_eq_true_eq] at l;unfold ltE at a
   split at a
   ·split at a
    ·rw [decide_eq_true_eq] at a;omega
    ·rw [decide_eq_true_eq] at a;omega
   ·rw [decide_eq_true_eq] at a;omega
 rcases Nat.lt_or_ge 1536 s.edges.length with a|g
 ·have:=j 1536 _ (dH a);omega
 ·exact g
structure Vc where
 code:Int
 fst:Aut
 snd:Aut
 tr:ByteArray
 ro:Nat
noncomputable def zaK (x y z:Sys) (p:Aut) (L:Nat) (a:Aut):ByteArray × Int × Aut:=
 if zbD x a p=true then (zan (zaG x a p) L,-1,noA)
 else if (vpT y z a).code=0 then (⟨#[]⟩,0,(vpT y z a).asm)
 else if (vpT y z a).code=2 then (⟨#[]⟩,2,noA)
 else (zan (vpT y z a).tr L,if zo x p L (zan (vpT y z a).tr L)=true then -1 else 1,noA)
noncomputable def chT (x y z:Sys) (p:Aut) (L:Nat):Nat->Nat->Option (List ByteArray × List ByteArray)->Vc
 |0,k,_=>⟨2,noA,noA,⟨#[]⟩,k⟩
 |_+1,k,none=>⟨2,noA,noA,⟨#[]⟩,k⟩
 |f+1,k,some tab =>
  if (zaK x y z p L (zcN L (zo x p L) tab.1 tab.2)).2.1=0 then ⟨0,zcN L (zo x p L) tab.1 tab.2,(zaK x y z p L (zcN L (zo x p L) tab.1 tab.2)).2.2,⟨#[]⟩,k+1⟩
  else if (zaK x y z p L (zcN L (zo x p L) tab.1 tab.2)).2.1=2 then ⟨2,noA,noA,⟨#[]⟩,k+1⟩
  else if (zaK x y z p L (zcN L (zo x p L) tab.1 tab.2)).2.1=1 then ⟨1,noA,noA,zR [x,y,z] p,k+1⟩
  else chT x y z p L f (k+1) (zaB L (zo x p L) tab.1 tab.2 (zaK x y z p L (zcN L (zo x p L) tab.1 tab.2)).1)
noncomputable def vcT (ss:List Sys) (p:Aut):Vc:=
 match ss with
 |[x,y,z]=>if 0<=zay [x,y,z] p then chT x y z p (zay [x,y,z] p).toNat 12 0 ((zX (zay [x,y,z] p).toNat (zo x p (zay [x,y,z] p).toNat) [⟨#[]⟩] 11 [⟨#[]⟩]).map fun r=>(r,[⟨#[]⟩])) else ⟨3,noA,noA,⟨#[]⟩,0⟩
 |_=>⟨3,noA,noA,⟨#[]⟩,0⟩
theorem runT_tr (s t:Sys) (p:Aut) (L f:Nat):∀ (k:Nat) (o:Option (List ByteArray × List ByteArray)),(runT s t p L f k o).tr=⟨#[]⟩∨(runT s t p L f k o).tr=zR [s,t] p:=by
 induction f with
 |zero=>intro k o;exact .inl rfl
 |succ f ih =>
  intro k o;cases o with
  |none=>exact .inl rfl
  |some tab =>
   rw [runT];split
   ·exact .inl rfl
   ·split
    ·exact .inr rfl
    ·exact ih _ _
theorem zhp (hs:zk s=true)(ht:zk t=true)(hp:zj p=true):zbj (vpT s t p).tr=true:=by
 have a:zbj (⟨#[]⟩:ByteArray)=true:=by unfold zbj;rfl
 rcases zcn s t p with h|⟨L,h⟩
 ·rw [zgC h];exact a
 ·rw [zgD h];rcases runT_tr s t p L 12 0 ((zX L (zo s p L) [⟨#[]⟩] 11 [⟨#[]⟩]).map fun r=>(r,[⟨#[]⟩])) with e|e
  ·rw [e];exact a
  ·rw [e];exact (zcX (ss:=[s,t]) (p:=p) (zcT sM sM (by simp [hs,ht])) hp).1
def RetVdS (w:World) (v:Vd) (L:Nat) (e:Ending) (w':World):Prop:=
 ∃ (A:Option Addr) (n c:Nat) (A':Option Addr) (n' c':Nat),
  e=.returned (.tuple #[.agg #[v.code,v.asm.al,.slice A n c,.slice A' n' c',v.tr,v.ro],.string (zan v.tr L)])∧zN w' w.heap.size A n c A' n' c' v.asm∧Ext w w'
section
variable {w:World} {lo hi c lo1 hi1 m d m' d' n1 c1 k1 d1 k1' d1' L b o:Nat} {A1 B B' X X':Option Addr} {x y z:Sys} {p a:Aut}
theorem yY13a2 {P:Prop}(h:P:=by
 simpa using (((((bG.ab 0 (.int .i64 v.code)).ab 1 (.int .i64 v.asm.al)).ab 2 (.slice Z1 z1 y1)).ab 3 (.slice Z2 z2 y2)).ab 4 (.string v.tr)).ab 5 (.int .i64 v.ro)
 ):P:=h
theorem zjR (h:zdG w lo hi (some ⟨b,o,none⟩) 3 [x,y,z])(ha:zF w lo1 hi1 X k1 X' k1' a) (vy:zk y=true) (vz:zk z=true) (va:zj a=true)(hhi:hi<=w.heap.size)(hL:L<64) :
  Calls Tryz.prog 61 #[.slice (some ⟨b,o,none⟩) 3 c,.agg #[x.al,x.st,.slice A1 n1 c1,p.al,.slice B m d,.slice B' m' d',L],.agg #[a.al,.slice X k1 d1,.slice X' k1' d1']] w (RetVdS w (vpT y z a) L):=by
 obtain⟨By,ny,cy,f0,f1,f2,Y⟩:=h.ax (k:=1) (s:=y) rfl;obtain⟨Bz,nz,cz,g0,g1,g2,hz⟩:=h.ax (k:=2) (s:=z) rfl;have CL:∀ W,Ext w W->W.cell? ⟨b,o+3,none⟩=some (.int .i64 y.al)∧W.cell? ⟨b,o+4,none⟩=some (.int .i64 y.st)∧W.cell? ⟨b,o+5,none⟩=some (.slice By ny cy)∧W.cell? ⟨b,o+6,none⟩=some (.int .i64 z.al)∧W.cell? ⟨b,o+7,none⟩=some (.int .i64 z.st)∧W.cell? ⟨b,o+8,none⟩=some (.slice Bz nz cz):=fun W hW =>
  ⟨hW.aa (by simpa using f0),hW.aa (by simpa [gF] using f1),hW.aa (by simpa [gF] using f2),hW.aa (by simpa using g0),hW.aa (by simpa [gF] using g1),hW.aa (by simpa [gF] using g2)⟩
 have HV:=za (fun W (hW:Ext w W)=>zgW (c:=cy) (d:=d1) (d':=d1') (c2:=cz) (Y.ext hW) (ha.ext hW) (hz.ext hW) (by have:=Y.1;have:=valid_len vy;omega) (eI hhi hW.size));have V:=za (zhp vy vz va);clear h ha vy vz va f0 f1 f2 g0 g1 g2 Y hz hhi;generalize vpT y z a=v at *
 go_enter Tryz.func61,Tryz.ntmps61
 go_upto_region 1 with fail
 generalize U0:((w.alloc _).alloc _).alloc _=u at *;obtain⟨t,b1,b2,b3⟩:=Ext.x3_ U0;clear U0;have C0:=b1.cells;have CA:=b2.cells;have O:=fun W (hW:Ext u W)=>CL W (t.trans hW);clear CL;have aD:=b3.lt
 go_cut [8] (fun v8 wx=>∃ (G:Nat) (Z1:Option Addr) (z1 y1:Nat) (Z2:Option Addr) (z2 y2:Nat),v8=.pointer (some G)∧u.heap.size<=G∧Blk wx G 42 #[v.code,v.asm.al,.slice Z1 z1 y1,.slice Z2 z2 y2,v.tr,v.ro]∧zN wx u.heap.size Z1 z1 y1 Z2 z2 y2 v.asm∧Ext u wx)
 case first =>
  have E:=dE u;refine uR (fun X=>Ext u X) [7,9] (zw.app [0,1,2,3,4,5,6] (zw.two 7 (zw.of [8,9]) 8 (zw.of [7,9]))) ?_;refine uQ ?_;have n:Ext u u.drew:=E.drew;have I:=n.size;generalize u.drew=wd at *;refine zm (fun K hK=>?_) (fun K hK=>?_)
  ·go_simp;refine (HV.out _ (t.trans n)).mono ?_;rintro e J ⟨Z1,z1,y1,Z2,z2,y2,rfl,ho,g⟩;refine hK.out _ _ (n.trans g) ?_;refine pT ?_;refine ze fun K hK=>?_;go_simp;have l:=(dE J).alloc (.cells #[(0:Int),(0:Int),(),(),.string ⟨#[]⟩,(0:Int)] 42);have f:=(n.trans g).trans l;have hG:u.heap.size<=J.heap.size:=(n.trans g).size;have r:=(ho.ext l).less I;refine hK.out _ _ f ?_;generalize U0:J.alloc _=M at *;have bG:=eS U0;clear U0;generalize J.heap.size=G at *;refine pT ?_;have S:=bG.cell;have T:=bG.frozen;refine zb fun K hK=>?_;go_simp;refine hK.out _ _ ?_;refine zg ?_;have q:=zdC M G (.int .i64 v.code) (.int .i64 v.asm.al) (.slice Z1 z1 y1) (.slice Z2 z2 y2) (.string v.tr) (.int .i64 v.ro);have D:Blk ((((((M.setCell G v.code).setCell ⟨G,1,none⟩ v.asm.al).setCell ⟨G,2,none⟩ (.slice Z1 z1 y1)).setCell ⟨G,3,none⟩ (.slice Z2 z2 y2)).setCell ⟨G,4,none⟩ v.tr).setCell ⟨G,5,none⟩ v.ro) G 42 #[.int .i64 v.code,.int .i64 v.asm.al,.slice Z1 z1 y1,.slice Z2 z2 y2,.string v.tr,.int .i64 v.ro]:=by
    exact yY13a2
   have R:=za (And.intro hG (And.intro D (And.intro (r.aq bG q dM) (f.frm q (fun k hk e=>oM)))));clear q D r ho f l g S T bG;go_wp2_with fail
   go_meet;exact⟨G,Z1,z1,y1,Z2,z2,y2,rfl,R.out⟩
  ·go_simp;have l:=(dE wd).alloc (.cells #[(0:Int),(0:Int),(),(),.string ⟨#[]⟩,(0:Int)] 42);have f:=n.trans l;refine hK.out _ _ f ?_;generalize U0:wd.alloc _=J at *;have bG:=eS U0;clear U0;generalize wd.heap.size=G at *;refine pT ?_;refine zb fun K hK=>?_;go_simp;refine (HV.out _ (t.trans f)).mono ?_;rintro e M ⟨Z1,z1,y1,Z2,z2,y2,rfl,ho,g⟩;have C:=f.trans g;have r:=ho.less f.size;replace bG:=bG.ext g;refine hK.out _ _ ?_;refine pT ?_;have S:=bG.cell;have T:=bG.frozen;refine zb fun K hK=>?_;go_simp;refine hK.out _ _ ?_;refine zg ?_;have q:=zdC M G (.int .i64 v.code) (.int .i64 v.asm.al) (.slice Z1 z1 y1) (.slice Z2 z2 y2) (.string v.tr) (.int .i64 v.ro);have D:Blk ((((((M.setCell G v.code).setCell ⟨G,1,none⟩ v.asm.al).setCell ⟨G,2,none⟩ (.slice Z1 z1 y1)).setCell ⟨G,3,none⟩ (.slice Z2 z2 y2)).setCell ⟨G,4,none⟩ v.tr).setCell ⟨G,5,none⟩ v.ro) G 42 #[.int .i64 v.code,.int .i64 v.asm.al,.slice Z1 z1 y1,.slice Z2 z2 y2,.string v.tr,.int .i64 v.ro]:=by
    exact yY13a2
   have R:=za (And.intro I (And.intro D (And.intro (r.aq bG q dM) (C.frm q (fun k hk e=>oM)))));clear q D r ho C f l g S T bG;go_wp2_with fail
   go_meet;exact⟨G,Z1,z1,y1,Z2,z2,y2,rfl,R.out⟩
 case rest =>
  obtain⟨G,Z1,z1,y1,Z2,z2,y2,rfl,hG,D,ho,F⟩:=hcut;have U:=za (zaX (s:=v.tr) (a:=L) (w:=wc.drew) V.out oM);have i:=b3.ext F;have aE:=D.lt;have aw:=fun W (hW:Ext wc W)=>C0 W (F.trans hW);have CV:=D.cells;have E:=dE wc;clear C0 CA O;go_upto_region 2 with fail
  refine uR (fun X=>Ext wc X) [6] (zw.of [0,1,2,3,4,5,6,7]) ?_;refine uQ ?_;refine ze fun K hK=>?_;go_simp;refine U.out.mono (mQ fun Z C=>?_);have j:Ext wc Z:=E.drew.trans C;refine hK.out _ _ j ?_;refine pT ?_;replace i:=i.ext j;replace ho:=(ho.ext j).less t.size;have cR:=i.cell;have fR:=i.frozen;refine zb fun K hK=>?_;go_simp;refine hK.out _ _ ?_;refine uQ ?_;refine zg ?_;have q:=zdC Z (w.heap.size+1+1) (.int .i64 v.code) (.int .i64 v.asm.al) (.slice Z1 z1 y1) (.slice Z2 z2 y2) (.string v.tr) (.int .i64 v.ro);have bR:Blk ((((((Z.setCell ⟨w.heap.size+1+1,0,none⟩ v.code).setCell ⟨w.heap.size+1+1,1,none⟩ v.asm.al).setCell ⟨w.heap.size+1+1,2,none⟩ (.slice Z1 z1 y1)).setCell ⟨w.heap.size+1+1,3,none⟩ (.slice Z2 z2 y2)).setCell ⟨w.heap.size+1+1,4,none⟩ v.tr).setCell ⟨w.heap.size+1+1,5,none⟩ v.ro) (w.heap.size+1+1) 42 #[.int .i64 v.code,.int .i64 v.asm.al,.slice Z1 z1 y1,.slice Z2 z2 y2,.string v.tr,.int .i64 v.ro]:=by
   simpa using (((((i.ab 0 (.int .i64 v.code)).ab 1 (.int .i64 v.asm.al)).ab 2 (.slice Z1 z1 y1)).ab 3 (.slice Z2 z2 y2)).ab 4 (.string v.tr)).ab 5 (.int .i64 v.ro)
  have H:=za (show RetVdS w v L (.returned (.tuple #[.agg #[v.code,v.asm.al,.slice Z1 z1 y1,.slice Z2 z2 y2,v.tr,v.ro],.string (zan v.tr L)])) _ from ⟨Z1,z1,y1,Z2,z2,y2,rfl,ho.aq i q dM,(t.trans (F.trans j)).frm q (fun k hk e=>oM)⟩);have Q:=za bR;clear q bR i cR fR ho;go_wp2_with fail
  have cf:=Q.out.cell;exact bodyPost_ret (v:=.tuple #[.agg #[v.code,v.asm.al,.slice Z1 z1 y1,.slice Z2 z2 y2,v.tr,v.ro],.string (zan v.tr L)]) (by simp [results,Tryz.results61,go_sem,cf]) rfl H.out
end
theorem wl_wstr (h:∀ l∈v,l<6):wl (wstr v)=v:=by
 unfold wl wstr lbs;rw [strOfNums_data,iO,iO]
 conv=>rhs;rw [← List.map_id v]
 refine List.map_congr_left fun l hl=>?_;have a:=h l hl;have b:∀ l,l<6->(UInt8.ofNat (97+l)).toNat - 97=l:=dM;have:=b l a;show (UInt8.ofNat (((97+l:Nat):Int)).toNat).toNat - 97=l;rw [fF];exact this
theorem vio_key (hss:∀ s∈ss,zk s=true)(ha:zj a=true)(hp:zj p=true) (hv:∀ l∈v,l<6) :
  (∃ x,zbe (zca ss a p) [0] v x∧zbJ a p x=true)↔zey ss a p v:=by
 have g:∀ s∈ss,zew (zdQ s):=fun s hs=>zei (zck (hss s hs));have r:∀ m∈[zbv a,zbv p],zew m:=by simp;exact⟨zbw ha,zbw hp⟩
 have o:zE [zbv a,zbv p]=a.next.length*p.next.length:=by simp [zE,zav,zbv]
 have u:=(zl ha).2.1;have z:=(zl hp).2.1;have b:∀ x,zbJ a p x=zbJ a p (x % zE [zbv a,zbv p]):=by
  intro x;unfold zbJ;rw [o,Nat.mod_mul_left_mod,gK,Nat.mod_mul_right_div_self,Nat.mod_mod]
 rw [zdl];have k:=ziO r hv (fun y=>zbJ a p y=true) g;have n:(∃ x,zbe (pnx (zbl ss [a,p])) [0] v x∧zbJ a p x=true)↔(∃ x,zbe (pnx (ss.map zdQ++[zbv a,zbv p])) [0] v x∧zbJ a p (x % zE [zbv a,zbv p])=true):=by
  constructor
  ·rintro ⟨x,h,c⟩;exact⟨x,h,by rw [← b];exact c⟩
  ·rintro ⟨x,h,c⟩;exact⟨x,h,by rw [b];exact c⟩
 rw [n,k];unfold zey;refine and_congr_right fun _=>?_;have f:=zeG ha hv (q:=0) oM;have d:=zeG hp hv (q:=0) oM;have i:(zaW a 0 v*p.next.length+zaW p 0 v) / p.next.length % a.next.length=zaW a 0 v:=by
  rw [gK,Nat.mul_add_div oM,Nat.div_eq_of_lt d,Nat.add_zero,iJ f]
 have j:(zaW a 0 v*p.next.length+zaW p 0 v) % p.next.length=zaW p 0 v:=by
  rw [gK,Nat.mul_add_mod,iJ d]
 constructor
 ·rintro ⟨y,t,c⟩;rw [(zhf ha hp hv y).1 t] at c;unfold zbJ at c;rw [i,j] at c;simpa using c
 ·intro c;refine⟨_,(zhf ha hp hv _).2 rfl,?_⟩;unfold zbJ;rw [i,j];simpa using c
def FstW (A:Nat) (B:List Nat->Prop) (v:List Nat):Prop:=ziG A v∧B v∧∀ u,ziG A u->zcF u<zcF v->¬ B u
theorem FstW.congr {A:Nat} {B C:List Nat->Prop} (h:FstW A B v)(he:∀ u,ziG A u->(B u↔C u)):FstW A C v:=
 ⟨h.1,(he v h.1).1 h.2.1,fun u hu hlt hc=>h.2.2 u hu hlt ((he u hu).2 hc)⟩
theorem FstW.uniq {A:Nat} {B:List Nat->Prop} {u:List Nat}(hu:FstW A B u)(hv:FstW A B v):u=v:=by
 rcases Nat.lt_trichotomy (zcF u) (zcF v) with h|h|h
 ·exact absurd hu.2.1 (hv.2.2 u hu.1 h)
 ·exact zke _ u v (dI _) (fun l hl=>(hu.1 l hl).1) (fun l hl=>(hv.1 l hl).1) h
 ·exact absurd hv.2.1 (hu.2.2 v hv.1 h)
theorem zeZ (hss:∀ s∈ss,zk s=true)(ha:zj a=true)(hp:zj p=true) :
  (zje ss a p=true∧∃ v,vioW ss a p=wstr v∧FstW (zB ss|||a.al.toNat) (zey ss a p) v)∨(zje ss a p=false∧vioW ss a p=wstr []∧∀ v,ziG (zB ss|||a.al.toNat) v->¬ zey ss a p v):=by
 have m:∀ l∈letters (zB ss|||a.al.toNat) 6,l<6:=fun l hl=>(zD.1 hl).1
 by_cases hl:Lost (zca ss a p) [0] (zbJ a p) (letters (zB ss|||a.al.toNat) 6)
 ·obtain⟨c,d⟩:=zgt hl;refine .inr ⟨by unfold zje;rw [d];rfl,by unfold vioW;rw [c],fun v b hb=>?_⟩;obtain⟨x,g,f⟩:=(vio_key hss ha hp (fun l hl=>(b l hl).1)).2 hb;have:=hl v (zeg.2 b) x g;rw [f] at this;cases this
 ·obtain⟨v,h⟩:=zfh hl;obtain⟨c,d⟩:=zfr m h;obtain⟨i,j,k⟩:=h;have b:=zeg.1 i;refine .inl ⟨by unfold zje;rw [d];rfl,v,by unfold vioW;rw [c],b,(vio_key hss ha hp (fun l hl=>(b l hl).1)).1 j,fun u hu hlt hb=>?_⟩;obtain⟨x,g,f⟩:=(vio_key hss ha hp (fun l hl=>(hu l hl).1)).2 hb;have:=k u (zeg.2 hu) hlt x g;rw [f] at this;cases this
theorem zjf {b r:Aut}(hss:∀ s∈ss,zk s=true)(hts:∀ s∈ts,zk s=true)(ha:zj a=true)(hb:zj b=true)(hp:zj p=true)(hr:zj r=true)
  (hal:zB ss|||a.al.toNat=zB ts|||b.al.toNat) (he:∀ v,ziG (zB ss|||a.al.toNat) v->(zey ss a p v↔zey ts b r v)):zje ss a p=zje ts b r∧vioW ss a p=vioW ts b r:=by
 rcases zeZ hss ha hp with ⟨g,v,h,d⟩|⟨g,h,d⟩
 ·rcases zeZ hts hb hr with ⟨k1,u,f,c⟩|⟨k1,f,c⟩
  ·rw [← hal] at c;obtain rfl:=(d.congr he).uniq c;exact⟨by rw [g,k1],by rw [h,f]⟩
  ·exact absurd ((he v d.1).1 d.2.1) (c v (by rw [← hal];exact d.1))
 ·rcases zeZ hts hb hr with ⟨k1,u,f,c⟩|⟨k1,f,c⟩
  ·exact absurd ((he u (by rw [hal];exact c.1)).2 c.2.1) (d u (by rw [hal];exact c.1))
  ·exact⟨by rw [g,k1],by rw [h,f]⟩
theorem zcY :zey ss free p v↔(∀ s∈ss,zgl s v)∧zct p (zaW p 0 v)=false:=by
 unfold zey;rw [runA_free];exact⟨fun h=>⟨h.1,h.2.2⟩,fun h=>⟨h.1,rfl,h.2⟩⟩
theorem ziJ (h:zbf ss p=true):zy ss=true∧zj p=true:=by
 unfold zbf zbi at h;simp only [eD] at h;exact h.1
theorem brok_first (h:zbf ss p=true):∃ v,zR ss p=wstr v∧FstW (zB ss) (fun v=>(∀ s∈ss,zgl s v)∧zct p (zaW p 0 v)=false) v:=by
 obtain⟨d,f⟩:=ziJ h;obtain⟨-,j⟩:=zao d;have i:zje ss free p=true:=by unfold zbf at h;simp only [eD] at h;exact h.2
 have c:zB ss|||free.al.toNat=zB ss:=by rw [show free.al.toNat=0 from rfl,Nat.or_zero]
 rcases zeZ (a:=free) j zbu f with ⟨-,v,b,g⟩|⟨b,-,-⟩
 ·rw [c] at g;exact⟨v,by unfold zR zbi;rw [d,f];exact b,g.congr fun u _=>zcY⟩
 ·rw [i] at b;cases b
theorem brok_top (h:zbf ss p=true):topB ss (zR ss p)=true∧breakB p (zR ss p)=true:=by
 obtain⟨c,d⟩:=ziJ h;obtain⟨v,g,f,⟨i,j⟩,-⟩:=brok_first h;have b:=(zcX c d).1;have a:wl (zR ss p)=v:=by rw [g];exact wl_wstr fun l hl=>(f l hl).1
 refine⟨top_iff.2 ⟨c,b,by rw [a];exact f,by rw [a];exact i⟩,?_⟩;unfold breakB;rw [d,b,a,j];rfl
theorem judge_zero (hs:zk s=true)(hp:zj p=true)(ht:zk t=true)(ha:zj a=true)(h:(zaP s p t L a).2=0):zcK s a p=true∧zcf [t] a=true:=by
 unfold zaP at h
 split at h
 ·cases h
 ·rename_i h1
  split at h
  ·split at h<;>cases h
  ·rename_i h2;refine⟨?_,?_⟩
   ·rw [underB_keeps,show zcL s a p=true by unfold zcL;rw [hs,ha,hp];rfl];simpa using h1
   ·rw [zfp,show zbi [t] a=true by unfold zbi;rw [ha,zcT sM sM (by simpa using ht)];rfl];simpa using h2
theorem zhP {x:Sys}    {w:ByteArray}(hL:L=(x.al.toNat|||p.al.toNat)&&&zB ts)(hpa:zy (x :: ts)=true)(hw:zbj w=true)(hu:ziG (zB ts) (wl w))(hr:∀ t∈ts,zgl t (wl w))(hs:zo x p L (zan w L)=false):zcf (x :: ts) p=false:=by
 refine zkc hL hpa hu hr fun hsafe=>?_;have a:zo x p L (zan w L)=true:=by
  rw [zeH];refine⟨zcg hw L,?_⟩;rw [wl_restB hw];exact hsafe
 rw [hs] at a;cases a
theorem judge_one (hL:L=(s.al.toNat|||p.al.toNat)&&&t.al.toNat)(hs:zk s=true)(ht:zk t=true)(h:(zaP s p t L a).2=1):zcf [s,t] p=false:=by
 unfold zaP at h
 split at h
 ·cases h
 ·split at h
  ·rename_i h2
   split at h
   ·cases h
   ·rename_i h3;obtain⟨k1,-⟩:=brok_top h2;obtain⟨-,b,c,d⟩:=top_iff.1 k1;exact zhP (L:=L) (by rw [hL];simp [zB]) (zcT sM sM (by simp [hs,ht])) b c d (by simpa using h3)
  ·cases h
theorem bits_one:∀ (l:List (List Bool)),l.Nodup->(∀ x∈l,x.length=1)->l.length<=2:=by
 intro l hn hl;have h:l ⊆ [[true],[false]]:=by
  intro x hx;have:=hl x hx
  match x,this with
  |[true],_=>simp
  |[false],_=>simp
 simpa using List.Nodup.length_le_of_subset hn h
section
variable {L:Nat} {f:ByteArray->Bool} {rows cols:List ByteArray}
theorem rows_few (h:zbX L f rows cols)(hc:cols.length=1):rows.length<=2:=by
 have:=bits_one _ h.nd (fun x hx=>by
  obtain⟨y,-,rfl⟩:=List.mem_map.1 hx;unfold zbF;rw [eT];exact hc)
 simpa using this
theorem closeT_long:∀ (k:Nat) (rows:List ByteArray),zbX L f rows cols->rows.length+k<=12->zX L f cols k rows=none->∃ rows',zbX L f rows' cols∧rows'.length=rows.length+k∧zaJ L f rows' cols≠none:=by
 intro k
 induction k with
 |zero =>
  intro rows h _ hn;refine⟨rows,h,rfl,fun ho=>?_⟩;rw [zcl 0 ho] at hn;cases hn
 |succ k ih =>
  intro rows h hk hn;cases ho:zaJ L f rows cols with
  |none=>rw [zcl _ ho] at hn;cases hn
  |some z =>
   rw [zcZ k ho] at hn;have a:=h.grow oM ho;obtain⟨r,b,c,d⟩:=ih _ a (by simp;omega) hn;exact⟨r,b,by rw [c];simp;omega,d⟩
theorem zhN (L:Nat) (f:ByteArray->Bool):∃ r,zX L f [⟨#[]⟩] 11 [⟨#[]⟩]=some r:=by
 cases h:zX L f [⟨#[]⟩] 11 [⟨#[]⟩] with
 |some r=>exact⟨r,rfl⟩
 |none =>
  obtain⟨r,a,b,-⟩:=closeT_long 11 _ (zbX.first L f) dM h
  have:=rows_few a rfl;rw [b] at this;simp at this
end
structure VdOk (s t:Sys) (p:Aut) (L:Nat) (v:Vd):Prop where
 code:v.code=0∨v.code=1∨v.code=2
 holds:v.code=0->zj v.asm=true∧v.asm.al=(L:Int)∧zcK s v.asm p=true∧zcf [t] v.asm=true∧v.ro<=v.asm.next.length
 none_:v.code≠0->v.asm=noA
 fails:v.code=1->zcf [s,t] p=false∧v.tr=zR [s,t] p
 quiet:v.code≠1->v.tr=⟨#[]⟩
 ro:1<=v.ro∧v.ro<=12
structure LnOk (L:Nat) (f:ByteArray->Bool) (k:Nat) (o:Option (List ByteArray × List ByteArray)):Prop where
 tab:zex L f o
 more:∀ rs cs,o=some (rs,cs)->k<rs.length
 none_:o=none->1<=k∧k<=12
theorem LnOk.start (L:Nat) (f:ByteArray->Bool):LnOk L f 0 ((zX L f [⟨#[]⟩] 11 [⟨#[]⟩]).map fun r=>(r,[⟨#[]⟩])):=by
 refine⟨zex.new L f,fun rs cs e=>((zex.new L f) rs cs e).1.r1,fun h=>?_⟩;obtain⟨r,a⟩:=zhN L f;rw [a] at h;cases h
theorem LnOk.ao {rs cs:List ByteArray}(h:LnOk L f k (some (rs,cs))) (x:ByteArray):LnOk L f (k+1) (zaB L f rs cs x):=by
 obtain⟨a,b⟩:=h.tab rs cs rfl;have d:=h.more rs cs rfl;refine⟨zex.ao a x,fun r c e=>?_,fun _=>⟨oM,oH a.r12⟩⟩;have:=(zfu a b e).1;omega
theorem runT_ok (hs:zk s=true)(hp:zj p=true)(ht:zk t=true)(hL:L=(s.al.toNat|||p.al.toNat)&&&t.al.toNat)(h64:L<64) :
  ∀ (g k:Nat) (o:Option (List ByteArray × List ByteArray)),LnOk L (zo s p L) k o->12<=g+k->VdOk s t p L (runT s t p L g k o):=by
 have j:∀ k,1<=k∧k<=12->VdOk s t p L ⟨2,noA,⟨#[]⟩,k⟩:=fun k i=>⟨.inr (.inr rfl),(fun h=>by cases h),fun _=>rfl,(fun h=>by cases h),fun _=>rfl,i⟩;intro g
 induction g with
 |zero =>
  intro k o ho hg;rw [runT];cases o with
  |none=>exact j k (ho.none_ rfl)
  |some tab =>
   have q:=(ho.tab tab.1 tab.2 rfl).1.r12;have r:=ho.more tab.1 tab.2 rfl;omega
 |succ g ih =>
  intro k o ho hg;cases o with
  |none=>rw [runT];exact j k (ho.none_ rfl)
  |some tab =>
   obtain⟨b,c⟩:=tab;obtain⟨d,a⟩:=ho.tab b c rfl;have i:=ho.more b c rfl;have l:=d.r12;have f:=zbs d a h64;rw [runT];split
   ·rename_i hj;obtain⟨m,n⟩:=judge_zero hs hp ht f hj;refine⟨.inl rfl,fun _=>⟨f,rfl,m,n,?_⟩,fun h=>absurd rfl h,(fun h=>by cases h),fun _=>rfl,⟨by show 1<=k+1;omega,by show k+1<=12;omega⟩⟩;show k+1<=(b.map _).length;rw [eT];omega
   ·split
    ·rename_i hj;exact⟨.inr (.inl rfl),(fun h=>by cases h),fun _=>rfl,fun _=>⟨judge_one hL hs ht hj,rfl⟩,fun h=>absurd rfl h,⟨by show 1<=k+1;omega,by show k+1<=12;omega⟩⟩
    ·exact ih _ _ (ho.ao _) oM
theorem vpT_ok (h:iface s p t=(L:Int)):VdOk s t p L (vpT s t p):=by
 obtain⟨d,f,b⟩:=zbz (s:=s) (p:=p) (t:=t) oM;have c:L=(s.al.toNat|||p.al.toNat)&&&t.al.toNat:=by
  have:=zda d f b;rw [h] at this;exact Int.ofNat.inj this
 have a:L<64:=by
  rw [c];have:=zG b;exact Nat.lt_of_le_of_lt Nat.and_le_right oM
 rw [zgD h];exact runT_ok d f b c a 12 0 _ (LnOk.start _ _) oM
theorem vpT_fault (h:(vpT s t p).code=0):faultA s t p (vpT s t p).asm=0:=by
 rcases zcn s t p with a|⟨L,a⟩
 ·rw [zgC a] at h;cases h
 ·obtain⟨b,c,d,f,-⟩:=(vpT_ok a).holds h;exact zhx.2 ⟨oM,b,by rw [c,a],d,f⟩
theorem find_adj (a:Nat->Bool) (n:Nat):(fW n).find? (fun k=>a k != a (k+1))=(fW n).find? (fun k=>a (k+1) != a 0):=by
 by_cases h:∃ k,k<n∧a (k+1)≠a 0
 ·have i:∃ k,(k<n∧a (k+1)≠a 0)∧∀ j,j<k->a (j+1)=a 0:=by
   have f:∀ m k,k<=m->k<n->a (k+1)≠a 0->∃ k,(k<n∧a (k+1)≠a 0)∧∀ j,j<k->a (j+1)=a 0:=by
    intro m
    induction m with
    |zero =>
     intro k hk hn hne;obtain rfl:k=0:=oM;exact⟨0,⟨hn,hne⟩,fun j hj=>oM⟩
    |succ m ih =>
     intro k hk hn hne
     by_cases hj:∃ j,j<k∧a (j+1)≠a 0
     ·obtain⟨j,d,c⟩:=hj;exact ih j oM oM c
     ·exact⟨k,⟨hn,hne⟩,fun j hjk=>Classical.not_not.1 fun h=>hj ⟨j,hjk,h⟩⟩
   obtain⟨k,d,c⟩:=h;exact f k k (dI _) d c
  obtain⟨k,⟨d,c⟩,g⟩:=i;have b:∀ j,j<=k->a j=a 0:=by
   intro j hj;cases j with
   |zero=>rfl
   |succ j=>exact g j oM
  rw [zeU d (fun j hj=>by rw [b j oM,b (j+1) oM];simp) (by rw [b k (dI _)];simpa using fun h=>c h.symm),
   zeU d (fun j hj=>by rw [b (j+1) oM];simp) (by simpa using c)]
 ·have b:∀ j,j<=n->a j=a 0:=by
   intro j hj;cases j with
   |zero=>rfl
   |succ j=>exact Classical.not_not.1 fun hne=>h ⟨j,oM,hne⟩
  rw [List.find?_eq_none.2 (fun k hk=>by rw [b k (by have:=List.mem_range.1 hk;omega),b (k+1) (by have:=List.mem_range.1 hk;omega)];simp),
   List.find?_eq_none.2 (fun k hk=>by rw [b (k+1) (by have:=List.mem_range.1 hk;omega)];simp)]
section
variable {L:Nat} {f:ByteArray->Bool} {rows cols:List ByteArray} {x:ByteArray}
noncomputable def zcD (L:Nat) (f:ByteArray->Bool) (rows cols:List ByteArray) (x:ByteArray):Option ByteArray:=
 if zct (zcN L f rows cols) (zaW (zcN L f rows cols) 0 (wl x))=f x then none
 else ((fW x.size).find? fun k=>zir L f rows cols x (k+1) != f x).map fun k=>x.extract (k+1) x.size
theorem extract_all (x:ByteArray):x.extract 0 x.size=x:=by
 apply ByteArray.ext;rw [ByteArray.data_extract];simp
theorem empty_append (x:ByteArray):(⟨#[]⟩:ByteArray)++x=x:=by
 apply ByteArray.ext;rw [ByteArray.data_append];simp
theorem split_same (hI:zbX L f rows cols)(hx:inB x L=true)(h4:x.size<=4000):zdA L f rows cols x=zcD L f rows cols x:=by
 have a:zir L f rows cols x 0=f x:=by
  unfold zir stT;rw [List.take_zero];show f (rows.getD 0 ⟨#[]⟩++_)=_;rw [eE,hI.r0,gQ,extract_all,empty_append]
 unfold zdA zcD;rw [find_adj (zir L f rows cols x),a]
 by_cases h:zct (zcN L f rows cols) (zaW (zcN L f rows cols) 0 (wl x))=f x
 ·rw [if_pos h,if_neg (by rintro ⟨-,b⟩;exact b h)]
 ·rw [if_neg h,if_pos ⟨by rw [hx];simpa using h4,h⟩]
theorem zhF (hx:inB x L=true) (k:Nat):inB (x.extract k x.size) L=true:=by
 obtain⟨a,d⟩:=zft.1 hx;have g:(x.extract k x.size).size<=x.size:=by rw [ByteArray.size_extract];omega
 have hd:(x.extract k x.size).data.toList=x.data.toList.drop k:=by
  rw [ByteArray.data_extract,Array.toList_extract,List.extract_eq_take_drop,eF];rw [List.length_drop];show x.data.toList.length - k<=x.size - k;rw [Array.length_toList];exact dI _
 have h:zbj (x.extract k x.size)=true:=by
  unfold zbj at a ⊢;simp only [eD,decide_eq_true_eq,fH] at a ⊢;refine⟨oM,fun b hb=>a.2 b ?_⟩;rw [hd] at hb;exact j9 hb
 refine zft.2 ⟨h,?_⟩;apply Nat.eq_of_testBit_eq;intro l;rw [iE,Bool.and_eq_left_iff_imp];intro hl;have f:l∈wl x:=by
  have:=(zea _ _).1 hl;unfold wl at this ⊢;rw [hd,List.map_drop] at this;exact j9 this
 have c:=(zea _ _).2 f;rw [← d,iE,eD] at c;exact c.2
theorem split_col {col:ByteArray}(hx:inB x L=true)(h4:x.size<=4000)(h:zcD L f rows cols x=some col):inB col L=true∧col.size<=4000:=by
 unfold zcD at h
 split at h
 ·cases h
 ·obtain⟨k,-,rfl⟩:=Option.map_eq_some_iff.1 h;exact⟨zhF hx _,by rw [ByteArray.size_extract];omega⟩
theorem learn_same (hI:zbX L f rows cols)(hx:inB x L=true)(h4:x.size<=4000) :
  zaB L f rows cols x=match zcD L f rows cols x with
   |none=>none
   |some col=>if (!zcS cols col&&decide (cols.length≠20))=true then (zX L f (cols++[col]) (12 - rows.length) rows).map fun r=>(r,cols++[col]) else none:=by
 unfold zaB;rw [split_same hI hx h4];cases h:zcD L f rows cols x with
 |none=>rfl
 |some col =>
  obtain⟨a,b⟩:=split_col hx h4 h;dsimp only;unfold zgO;rw [a,decide_eq_true b];rfl
end
section
variable {J:zbx} {B b0 L base nr cr nc cc kn:Nat} {S S':Nat->Prop} {W W':World} {R C:Option Addr} {rows cols:List ByteArray} {f:ByteArray->Bool} {rc:Value}
theorem tb_cell {bT q tc:Nat} {TA:Option Addr} {g:Nat->Nat->Nat}(h:w.ownsRow bT 166 6 (.slice TA n tc) n (tbC n g))(hq:q<n)(hl:l<6):∃ gT,TA=some ⟨gT,0,none⟩∧w.cell? ⟨gT,q*6+l,none⟩=some (.int .i64 (g q l:Nat)):=by
 obtain⟨gT,rfl,-,-⟩:=zad h oM;exact⟨gT,rfl,by rw [h.cellAt _ oM,tbC_get hq hl]⟩
theorem st_step (hl:(wl x)[k]?=some l):stT L f rows cols x (k+1)=aGo (zcN L f rows cols) (stT L f rows cols x k) l:=by
 unfold stT;rw [eG,hl,e8,zbB]
theorem or_splitWord (hO:zfE b0 L f J kn rc)(hj:J B W S)(hB:B+6000<10000000)(hT:zhb W S base R nr cr C nc cc rows cols)(hI:zbX L f rows cols)(hcl:zaJ L f rows cols=none)(hb0:b0<=W.heap.size)(hL:L<64)(hx:inB x L=true)(hxs:x.size<=4000) :
  Calls Tryz.prog 128 #[orcV L kn rc,.agg #[.slice R nr cr,.slice C nc cc],x] W (RetO J (.tuple #[.string ((zcD L f rows cols x).getD ⟨#[]⟩),.bool (zcD L f rows cols x).isSome]) (B+6000) S W):=by
 have HO:=za hO;have HI:=za hI;have hv:=za (zbs hI hcl hL);have D:Ext W ((W.alloc (.cells #[(L:Int),.func (.func kn) #[rc] #[]] 83)).alloc (.cells #[.slice R nr cr,.slice C nc cc] 90)):=((dE _).alloc _).alloc _;obtain⟨b3,b4⟩:=zJ (dE ((W.alloc (.cells #[(L:Int),.func (.func kn) #[rc] #[]] 83)).alloc (.cells #[.slice R nr cr,.slice C nc cc] 90)));have ag:=za (fun (q:Nat) (hq:W.heap.size<=q)=>zbx.fresh hO.ok hj hq);have ci:=hO.ok.keep hj D (fun _ _ h=>h.elim);have bt:=za (hT.ext D);have bx:=za hT.lens;have cn:W.heap.size<((W.alloc (.cells #[(L:Int),.func (.func kn) #[rc] #[]] 83)).alloc (.cells #[.slice R nr cr,.slice C nc cc] 90)).heap.size∧W.heap.size+1<((W.alloc (.cells #[(L:Int),.func (.func kn) #[rc] #[]] 83)).alloc (.cells #[.slice R nr cr,.slice C nc cc] 90)).heap.size:=by simp;omega
 have Hx:=za hx;have Hb:=za (fun k hk=>zaQ (zaT hx) (k:=k) hk);have aC:=za (fun (X:World) (hX:Ext W X)=>zeF hO (hO.ok.keep hj hX (fun _ _ h=>h.elim)) oM (hT.ext hX) hI hcl (eI hb0 hX.size) hL);have b9:=hO.in_;have a7:(zcN L f rows cols).next.length=rows.length:=by simp [zcN]
 have ay:stT L f rows cols x 0=0:=by simp [stT,zaW]
 have H:=za a7;have bI:=za ay;have bB:=za hI.r12;have bA:=za hI.r1;clear hO hI hT hcl hx hj a7 ay;obtain⟨a,ha⟩:∃ a,Hid (zcN L f rows cols=a):=⟨_,za rfl⟩;have aq:=za (show a.al=(L:Int) by rw [← ha.out];rfl);have aL:=za (show zcD L f rows cols x=if zct a (zaW a 0 (wl x))=f x then none else ((fW x.size).find? fun k=>zir L f rows cols x (k+1) != f x).map fun k=>x.extract (k+1) x.size by rw [← ha.out];rfl);have bd:=za (fun (k l:Nat) (hl:(wl x)[k]?=some l)=>st_step (L:=L) (f:=f) (rows:=rows) (cols:=cols) hl);rw [ha.out] at aC hv H bd
 go_enter Tryz.func128,Tryz.ntmps128
 go_upto_region 1 with fail
 generalize (W.alloc _).alloc _=w1 at *;have k3:=b3.cell;have k4:=b4.cell;go_upto_region 2 with (go_at_call 51;refine (aC.out _ D).mono ?_;rintro e w2 ⟨S2,A,A',n,c,n',c',rfl,aS,ai⟩;rw [aq.out])
 obtain⟨w3,U0⟩:∃ x,Hid (w2.alloc (.cells #[(L:Int),.slice A n c,.slice A' n' c'] 27)=x):=⟨_,za rfl⟩;have hb8:=eS U0.out;have am:Ext w2 w3:=((dE _).alloc _).trans (gO U0.out);obtain⟨G,aW⟩:∃ G,Hid (G=w2.heap.size):=⟨_,za rfl⟩;rw [← aW.out] at hb8 ⊢;have bU:=ai.size;have av:=za (fun (q:Nat) (hq:w2.heap.size<=q)=>zbx.fresh HO.out.ok ai.j hq);have br:=av.out G (oH aW.out);have B3:=za b3;have B4:=za b4;clear k3 k4 b3 b4;rw [U0.out] at *;have k8:=hb8.cell;have az:=aS.ext am;have aV:=za (zN.reads az.own_);go_upto_region 3 with (go_at_call 119;rw [← aq.out];refine (zce aV.out hv.out).mono ?_;rintro e w4 ⟨TA,tc,rfl,⟨bT,cg,aJ⟩,ak⟩)
 have be:=am.trans ak;have a4:=za (ai.ext HO.out.ok be);have aT:=za (az.ext ak);have ar:=za (hb8.ext ak);have aA:=za (show zgk w4 S2 bT 166 6 (.slice TA a.next.length tc) a.next.length (tbC a.next.length (aGo a)) from ⟨aJ,fun b hb=>av.out b (by have:=(aJ.lt b hb).1;have:=am.size;omega)⟩);have ck:a.next.length<=12:=by rw [H.out];exact bB.out
 clear hb8 am aS az aV aJ ak k8 ai aC;go_wp2_with fail
 go_loopw [10,11,21] (fun qv _ iv wr=>∃ k:Nat,iv=.int .i64 k∧qv=.int .i64 (zaW a 0 ((wl x).take k))∧k<=x.size∧Ext w4 wr) (fun _ _ iv _=>x.size - (intOf iv).toNat)
 case atStart=>exact⟨0,rfl,by simp [zaW],eC _,dE _⟩
 case round =>
  obtain⟨k,rfl,rfl,hk,t⟩:=hrel;have p:∀ k,zaW a 0 ((wl x).take k)<a.next.length:=fun k=>zeG hv.out (fun l hl=>wl_lt (zaT Hx.out) l (List.mem_of_mem_take hl)) (by rw [H.out];exact bA.out)
  by_cases hlt:k<x.size
  ·have a6:(k:Int)<(x.size:Int):=oM;have bu:=Hb.out k hlt;have U:=za (zev hlt);have Y:=za (show ltr (x[k].toNat)=((x[k].toNat - 97:Nat):Int) by unfold ltr;rw [if_neg oM];omega);obtain⟨l,V⟩:∃ l,Hid (l=x[k].toNat - 97):=⟨x[k].toNat - 97,za rfl⟩;rw [← V.out] at U Y;have aH:l<6:=oH V.out;have aa:=za (show zaW a 0 ((wl x).take (k+1))=aGo a (zaW a 0 ((wl x).take k)) l by rw [eG,U.out,e8,zbB]);have m:=p k;obtain⟨q,z⟩:∃ q,Hid (zaW a 0 ((wl x).take k)=q):=⟨_,za rfl⟩;rw [z.out] at aa m ⊢;obtain⟨gT,rfl,i⟩:=tb_cell (aA.out.ext t).own m aH;rw [← aa.out] at i;have CT:∀ X,Ext wr X->X.cell? ⟨gT,q*6+l,none⟩=some (.int .i64 (zaW a 0 ((wl x).take (k+1)):Nat)):=fun X hX=>hX.aa i;have aK:(q:Int)<(a.next.length:Int):=oM;have a5:(l:Int)<6:=oM;have d:=dE wr;clear i p;obtain⟨q',Z⟩:∃ q',Hid (zaW a 0 ((wl x).take (k+1))=q'):=⟨_,za rfl⟩;rw [Z.out] at CT;go_upto_region 7 with fail
   refine uR (fun X=>Ext wr X) [] (zw.of [0,1,2,3,5,4,6,7,8]) ?_;refine uQ ?_;refine ze fun K hK=>?_;go_simp;refine (zcd x k hlt _).mono ?_;rw [Y.out];rintro e w6 ⟨rfl,rfl⟩;refine hK.out _ _ d.drew ?_;refine pT ?_;refine uQ ?_;refine zg ?_;go_wp2_with fail
   go_roundw
   case rel=>exact⟨k+1,gM,by rw [Z.out],oM,t.trans d.drew⟩
   case measure=>simp [intOf];omega
  ·obtain rfl:k=x.size:=oM;have bC:=za (show zaW a 0 ((wl x).take x.size)=zaW a 0 (wl x) by rw [eF (by rw [zgh];exact dI _)]);have m:=p x.size;rw [bC.out] at m ⊢;have ap:=za p;obtain⟨q,z⟩:∃ q,Hid (zaW a 0 (wl x)=q):=⟨_,za rfl⟩;rw [z.out] at m ⊢;have aj:=za (a4.out.ext HO.out.ok t);have M:=za (HO.out.ask _ wr S2 x aj.out.j oM Hx.out oM);obtain⟨I,g⟩:∃ I,Hid (f x=I):=⟨_,za rfl⟩;rw [g.out] at M;have k3:=(aj.out.blk B3.out (ag.out _ (dI _))).1.cell;have aU:=za (aT.out.ext t);have aZ:=za (aA.out.ext t);have a1:=za (ar.out.ext t);clear p a4 aT aA ar t;go_upto_region 10 with fail
   refine M.out.mono ?_;rintro e w5 ⟨S5,rfl,O⟩;have v:=za (aj.out.trans O);have af:=aU.out.kp O;have aX:=za (aZ.out.kp O);have a0:=(O.blk a1.out br).1;have k8:=a0.cell;obtain rfl:=own_num af.acc;have u:=za (zl hv.out).2.2.1;obtain⟨gA,rfl,-,-⟩:=zad af.acc (oH u.out);have cA:w5.cell? ⟨gA,q,none⟩=some (.bool (zct a q)):=by
    rw [af.acc.cellAt q (oH u.out)];unfold zct zak;rw [List.getElem?_map,eE,dH (oH u.out)];rfl
   have bR:(q:Int)<(a.acc.length:Int):=oH u.out;obtain⟨ba,ah⟩:∃ ba,Hid (zct a q=ba):=⟨_,za rfl⟩;rw [ah.out] at cA;clear af a0 aU aZ a1 O M k3 aj;have a3:=(v.out.blk B3.out (ag.out _ (dI _)))
   by_cases hbe:ba=I
   ·have o:=za (show RetO J (.tuple #[.string ((zcD L f rows cols x).getD ⟨#[]⟩),.bool (zcD L f rows cols x).isSome]) (B+6000) S W (.returned (.tuple #[.string ⟨#[]⟩,.bool false])) w5 from
     ⟨S5,by rw [aL.out,z.out,ah.out,g.out,if_pos hbe];rfl,(v.out.more HO.out.ok oM).back D⟩)
    have y:(ba==I)=true:=by rw [hbe];simp
    go_wp2_with fail
    go_ret2;exact o.out
   ·have y:(ba==I)=false:=by simpa using hbe
    have aP:=za hbe;clear hbe;go_upto_region 12 with fail
    clear k8 cA y a3;go_wp2_with fail
    go_loopw [10,13,46] (fun qv _ iv wr=>∃ (k:Nat) (S6:Nat->Prop),iv=.int .i64 k∧qv=.int .i64 (zaW a 0 ((wl x).take k))∧k<=x.size∧Hid (Kp J (B+1693+k) S w1 wr S6)∧Hid (zgk wr S6 bT 166 6 (.slice TA a.next.length tc) a.next.length (tbC a.next.length (aGo a)))∧Hid (∀ j,j<k->zir L f rows cols x (j+1)=I)) (fun _ _ iv _=>x.size - (intOf iv).toNat)
    case atStart=>exact⟨0,S5,rfl,by simp [zaW],eC _,v,aX,za (fun j h=>oM)⟩
    case round =>
     clear v aX;obtain⟨k,S6,rfl,rfl,hk,aG,aB,aI⟩:=hrel
     by_cases hlt:k<x.size
     ·have a6:(k:Int)<(x.size:Int):=oM;have bu:=Hb.out k hlt;have U:=za (zev hlt);have Y:=za (show ltr (x[k].toNat)=((x[k].toNat - 97:Nat):Int) by unfold ltr;rw [if_neg oM];omega);obtain⟨l,V⟩:∃ l,Hid (l=x[k].toNat - 97):=⟨x[k].toNat - 97,za rfl⟩;rw [← V.out] at U Y;have aH:l<6:=oH V.out;have aa:=za (show zaW a 0 ((wl x).take (k+1))=aGo a (zaW a 0 ((wl x).take k)) l by rw [eG,U.out,e8,zbB]);have ab:=ap.out k;have ad:=ap.out (k+1);have bc:=za (show zir L f rows cols x (k+1)=f (rows.getD (zaW a 0 ((wl x).take (k+1))) ⟨#[]⟩++x.extract (k+1) x.size) by rw [← ha.out];rfl);obtain⟨q0,a9⟩:∃ q0,Hid (zaW a 0 ((wl x).take k)=q0):=⟨_,za rfl⟩;rw [a9.out] at aa ab ⊢;obtain⟨gT,rfl,i⟩:=tb_cell aB.out.own ab aH;rw [← aa.out] at i;obtain⟨q',Z⟩:∃ q',Hid (zaW a 0 ((wl x).take (k+1))=q'):=⟨_,za rfl⟩;rw [Z.out] at i ad bc;have CT:∀ X,Ext wr X->X.cell? ⟨gT,q0*6+l,none⟩=some (.int .i64 (q':Nat)):=fun X hX=>hX.aa i;have aK:(q0:Int)<(a.next.length:Int):=oM;have a5:(l:Int)<6:=oM;have d:=dE wr;clear i;go_upto_region 16 with fail
      refine uR (fun X=>Ext wr X) [] (zw.of [0,1,2,3,5,4,6,7,8]) ?_;refine uQ ?_;refine ze fun K hK=>?_;go_simp;refine (zcd x k hlt _).mono ?_;rw [Y.out];rintro e w6 ⟨rfl,rfl⟩;refine hK.out _ _ d.drew ?_;refine pT ?_;refine uQ ?_;refine zg ?_;have Q:=za (aG.out.ext HO.out.ok d.drew);have aY:=za (aB.out.ext d.drew);clear CT aG aB d;generalize wr.drew=wd at *;obtain⟨r,hr⟩:∃ r,rows[q']?=some r:=⟨_,dH (by rw [← H.out];exact ad)⟩;have bb:=za (List.mem_of_getElem? hr);have cm:r.size<=12:=(HI.out.rin bb.out).2;obtain⟨gR,rfl,a2⟩:=zhS (bt.out.kp Q.out).r.own hr;obtain⟨y2,E⟩:∃ y2,Hid (x.extract (k+1) x.size=y2):=⟨_,za rfl⟩;have bX:y2.size<=4000:=by rw [← E.out,ByteArray.size_extract];omega
      obtain⟨z2,an⟩:∃ z2,Hid (r++y2=z2):=⟨_,za rfl⟩;have bf:=za (show inB z2 L=true by
       rw [← an.out,← E.out];exact ziR (HI.out.rin bb.out).1 (zhF Hx.out (k+1)) (by rw [E.out];omega))
      have bD:z2.size<=9000:=by rw [← an.out,ByteArray.size_append];omega
      have ax:=za (show zir L f rows cols x (k+1)=f z2 by rw [bc.out,eE,hr,gQ,E.out,an.out]);obtain⟨bz,aD⟩:∃ bz,Hid (f z2=bz):=⟨_,za rfl⟩;have bS:¬ 9223372036854775807<r.size+y2.size:=oM;have cl:(q':Int)<(nr:Int):=by rw [← bx.out.1,← H.out];omega
      have bV:=IntWalk.i64_in ((k:Int)+1) oM;have cj:(k:Int)+1<=(x.size:Int):=oM;have bQ:(0:Int)<=(k:Int)+1:=oM;have bW:=E.out;have bY:=an.out;have K3:∀ X,Ext wd X->∀ j,X.cell? ⟨W.heap.size,j,none⟩=#[Value.int .i64 (L:Int),.func (.func kn) #[rc] #[]][j]?:=fun X hX=>((Q.out.blk B3.out (ag.out _ (dI _))).1.ext hX).cell;have K4:∀ X,Ext wd X->∀ j,X.cell? ⟨W.heap.size+1,j,none⟩=#[Value.slice (some gR) nr cr,.slice C nc cc][j]?:=fun X hX=>((Q.out.blk B4.out (ag.out _ oM)).1.ext hX).cell;have CR:∀ X,Ext wd X->X.cell? ⟨gR,q',none⟩=some (.string r):=fun X hX=>hX.aa a2;have d:=dE wd;clear a2 hr;go_upto_region 17 with fail
      refine uR (fun X=>Ext wd X) [12] (zw.of [0,1,2,3,4,5,6,7,8,9,10,11,13,12,14]) ?_;refine uQ ?_;have T:=Q.out.ext HO.out.ok d.drew;have s:=za (HO.out.ask _ wd.drew S6 z2 T.j oM bf.out bD);rw [aD.out] at s;refine zb fun K hK=>?_;go_simp;refine s.out.mono ?_;rintro e w7 ⟨S7,rfl,aF⟩;refine hK.out _ _ ?_;refine pT ?_;refine uQ ?_;refine zg ?_;have aw:=za (T.trans aF);have bs:=za ((aY.out.ext d.drew).kp aF);clear K3 K4 CR s T aF Q aY
      by_cases hbe:bz=I
      ·have y:(bz==I)=true:=by rw [hbe];simp
       have a8:=za (show ∀ j,j<k+1->zir L f rows cols x (j+1)=I from fun j hj=>by
        rcases Nat.lt_or_eq_of_le (Nat.le_of_lt_succ hj) with h1|rfl
        ·exact aI.out j h1
        ·rw [ax.out,aD.out,hbe])
       clear y;have F:=za hbe;clear hbe;go_wp2_with fail
       ·rename_i hh;exfalso;rw [F.out] at hh;simp at hh
       ·go_roundw
        case rel=>exact⟨k+1,S7,gM,by rw [Z.out],oM,za (by have:=aw.out;rwa [show B+1693+k+1=B+1693+(k+1) by omega] at this),bs,a8⟩
        case measure=>simp [intOf];omega
      ·have au:(bz != I)=true:=by simpa using hbe
       have y:(bz==I)=false:=by simpa using hbe
       have o:=za (show RetO J (.tuple #[.string ((zcD L f rows cols x).getD ⟨#[]⟩),.bool (zcD L f rows cols x).isSome]) (B+6000) S W (.returned (.tuple #[y2,.bool true])) w7 from by
        have aE:(fW x.size).find? (fun k=>zir L f rows cols x (k+1) != f x)=some k:=zeU hlt (fun j hj=>by rw [aI.out j hj,g.out];simp) (by rw [ax.out,aD.out,g.out];exact au);exact⟨S7,by rw [aL.out,z.out,ah.out,g.out,if_neg aP.out,← g.out,aE,← E.out];rfl,(aw.out.more HO.out.ok oM).back D⟩)
       have F:=za hbe;clear hbe au y;go_wp2_with fail
       ·go_ret2;exact o.out
       ·rename_i hh;exfalso;exact F.out (by simpa using hh)
     ·have ch:¬ (k:Int)<(x.size:Int):=oM;have o:=za (show RetO J (.tuple #[.string ((zcD L f rows cols x).getD ⟨#[]⟩),.bool (zcD L f rows cols x).isSome]) (B+6000) S W (.returned (.tuple #[.string ⟨#[]⟩,.bool false])) wr from by
       have aE:(fW x.size).find? (fun k=>zir L f rows cols x (k+1) != f x)=none:=by
        rw [List.find?_eq_none];intro j hj;rw [List.mem_range] at hj;rw [aI.out j oM,g.out];simp
       exact⟨S6,by rw [aL.out,z.out,ah.out,g.out,if_neg aP.out,← g.out,aE];rfl,(aG.out.more HO.out.ok oM).back D⟩)
      go_wp2_with fail
      go_ret2;exact o.out
end
end Go.Proofs.YtckbjnndaaoddaaGreatDoor
