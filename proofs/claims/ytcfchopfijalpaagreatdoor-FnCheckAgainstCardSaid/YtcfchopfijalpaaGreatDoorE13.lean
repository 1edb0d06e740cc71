/- The referenc -/
import Derived.Test.YtcfchopfijalpaaGreatDoorE12
set_option maxHeartbeats 4000000
set_option maxRecDepth 100000
namespace Go.Proofs.YtcfchopfijalpaaGreatDoor
open Go Go.RowKit
open Blk renaming new->dV
open Bool renaming and_eq_true->dG
open Ext renaming bl_->dU,eq_->eP,refl->cY,x2_->gI
open Frm renaming setCell->dE
open Int renaming natCast_add->iE,toNat_natCast->eY
open List renaming length_cons->fX
open Nat renaming le_refl->dD,le_trans->dJ,mul_le_mul->eT,pow_le_pow_right->eE,zero_le->dF
open Reads renaming af->eA
variable {A A':Option Addr} {G K L Z base c c' g hi j lo n n':Nat} {W w w' w0:World} {a p:Aut} {cd ro:Int} {cs:Array Value} {e:Ending} {s:ByteArray} {ss:List Sys} {t:Sys} {v:List Nat}
theorem tot_le6:∀ ls:List (List Int),(∀ l∈ls,l.length<=6)->tot ls<=ls.length*6
 |[],_=>by simp [tot]
 |l :: r,h=>by
  have:=tot_le6 r (fun x hx=>h x (by simp [hx]))
  have:=h l sM
  rw [show tot (l :: r)=l.length+tot r by simp [tot],fX,Nat.add_mul]
  omega
theorem zdg (h:zj a=true):a.size<=1048576:=by
 obtain⟨_,⟨_,f⟩,g,b⟩:=zk h;have i:=tot_le6 a.next (fun l hl=>by
  obtain⟨q,d⟩:=List.getElem?_of_mem hl;obtain⟨c,_⟩:=b q l d;rw [c];exact zD _ _)
 unfold Aut.size;omega
def zjy (w:World) (s:Sys) (p:Aut) (L:Nat) (e:Ending) (w':World):Prop:=
 ∃ (A:Option Addr) (n c:Nat) (B:Option Addr) (m d:Nat) (B':Option Addr) (m' d':Nat),e=.returned (.tuple #[.agg #[s.al,s.st,.slice A n c,p.al,.slice B m d,.slice B' m' d',L],.bool true])∧Tch w' A n B m B' m' s p L∧Ext w w'
section
variable {w:World} {lo hi n c lo1 hi1 m d m' d' lo2 hi2 k c2:Nat} {A B B' C:Option Addr} {s t:Sys} {p:Aut}
theorem spec_TaskOf (hs:zP w lo hi A n s)(hp:zJ w lo1 hi1 B m B' m' p)(ht:zP w lo2 hi2 C k t)(hif:iface s p t=(L:Int))(hn:n<=1000000)(hhi:hi<=w.heap.size) :
  Calls Tryz.prog 174 #[.agg #[s.al,s.st,.slice A n c],.agg #[p.al,.slice B m d,.slice B' m' d'],.agg #[t.al,t.st,.slice C k c2]] w (zjy w s p L):=by
 obtain⟨E,U,vt⟩:=zbx (show 0<=iface s p t by omega);have hL:L<64:=by
  rw [zeP E U vt] at hif;have h1:=zQ vt;have Z:((s.al.toNat|||p.al.toNat)&&&t.al.toNat)<=t.al.toNat:=Nat.and_le_right;omega
 have z:=za (fun W (hW:Ext w W)=>zbp (c:=c) (d1:=d) (d1':=d') (c2:=c2) (hs.ext hW) (hp.ext hW) (ht.ext hW));rw [hif] at z;obtain⟨P,T⟩:∃ P:Nat,s.st=(P:Int):=⟨s.st.toNat,by have:=(zcD E).1;omega⟩;have I:P<=16:=by have:=(zcD E).2.1;omega
 have HK:=za (fun W (hW:Ext w W)=>spec_l2Keep (c:=c) (hs.ext hW) E T hn (dJ hhi hW.size));have HC:=za (fun W (hW:Ext w W)=>zay (c:=d) (c':=d') (hp.ext hW) (zdg U));have hF:1<=2 ^ P∧2 ^ P<=65536:=⟨Nat.one_le_two_pow,by have:=eE (show 1<=2 by omega) I;have Z:(2:Nat) ^ 16=65536:=rfl;omega⟩;have G:=za (fun W=>zgW P oM W);have H:=za T;have hV:=za (And.intro E (And.intro U hL));rw [T] at z HK ⊢;generalize hFe:2 ^ P=F at *;have aj:IntKind.i64.wrap ((F:Int) - 1)=((F - 1:Nat):Int):=by rw [IntWalk.i64_in _ oM];omega
 clear hFe hs hp ht hif E U vt T;obtain⟨S,U0⟩:∃ x,Hid ((((w.alloc (.cells #[s.al,.int .i64 (P:Nat),.slice A n c] 38)).alloc (.cells #[p.al,.slice B m d,.slice B' m' d'] 31)).alloc (.cells #[t.al,t.st,.slice C k c2] 38)).alloc (.cells #[(0:Int),(0:Int),(),(0:Int),(),(),(0:Int)] 96)=x):=⟨_,za rfl⟩;have hx0:Ext w S:=(((((cY _).alloc _).alloc _).alloc _).alloc _).trans (eP U0.out);obtain⟨b1,b2,b3⟩:=zL (((cY _).alloc _).trans (eP U0.out));have Y:=dU U0.out;simp only [World.size_alloc] at Y
 go_enter Tryz.func174,Tryz.ntmps174
 go_upto_region 1 with fail
 rw [U0.out] at *;have CS:=b1.cells;have CP:=b2.cells;have CT:=b3.cells;have hww:=cY S;go_upto_region 4 with (first
  |(go_at_call 114;refine (z.out _ hx0).mono (mQ fun V a=>?_)))
 have hx1:=hx0.trans a;have an:=fun W (hW:Ext V W)=>CS W (a.trans hW);have am:=fun W (hW:Ext V W)=>CP W (a.trans hW);have ab:=cY V;clear CS CP CT hww;refine uR (fun X=>Ext V X) [10] (zv.of [0,1,2,6,8,3,4,5,7,9,10,11]) ?_;refine uQ ?_;have q:=ab.drew;refine ze fun K hK=>?_;go_simp;refine (G.out _).mono ?_;rintro e w' ⟨rfl,rfl⟩;refine hK.out _ _ q ?_;refine pT ?_;refine uQ ?_;refine ze fun K hK=>?_;go_simp;refine (HK.out _ (hx1.trans q)).mono ?_;rintro e w2 ⟨j,l,c1,rfl,M,hx2⟩;rw [H.out];have g:=q.trans hx2;refine hK.out _ _ g ?_;refine pT ?_;refine uQ ?_;refine ze fun K hK=>?_;go_simp;refine (HC.out _ (hx1.trans g)).mono ?_;rintro e h ⟨o,r,d1,b,f,d1',rfl,O,R⟩;have i:=g.trans R;refine hK.out _ _ i ?_;refine pT ?_;refine uQ ?_;have hxw:=hx1.trans i;have bz:=Y.ext (a.trans i);have kz:=bz.cell;have fz:=bz.frozen;have D:=M.ext R;have aw:=Y.lt;have y:zP h S.heap.size h.heap.size j l s:=(show zP h _ h.heap.size j l s from ⟨D.1,eA D.2⟩).more (a.trans q).size (dD _);have u:zJ h S.heap.size h.heap.size o r b f p:=O.reads.more (a.trans g).size (dD _);have ak:=hx0.size;have J:Frm (fun k=>k=w.heap.size+1+1+1) h (((((((h.setCell ⟨w.heap.size+1+1+1,0,none⟩ s.al).setCell ⟨w.heap.size+1+1+1,1,none⟩ (.int .i64 (P:Nat))).setCell ⟨w.heap.size+1+1+1,2,none⟩ (.slice j l c1)).setCell ⟨w.heap.size+1+1+1,3,none⟩ p.al).setCell ⟨w.heap.size+1+1+1,4,none⟩ (.slice o r d1)).setCell ⟨w.heap.size+1+1+1,5,none⟩ (.slice b f d1')).setCell ⟨w.heap.size+1+1+1,6,none⟩ (.int .i64 (L:Nat))):=
  ((((((dE h _ 0 _).trans (dE _ _ 1 _)).trans (dE _ _ 2 _)).trans (dE _ _ 3 _)).trans (dE _ _ 4 _)).trans (dE _ _ 5 _)).trans (dE _ _ 6 _)
 have bW:Blk (((((((h.setCell ⟨w.heap.size+1+1+1,0,none⟩ s.al).setCell ⟨w.heap.size+1+1+1,1,none⟩ (.int .i64 (P:Nat))).setCell ⟨w.heap.size+1+1+1,2,none⟩ (.slice j l c1)).setCell ⟨w.heap.size+1+1+1,3,none⟩ p.al).setCell ⟨w.heap.size+1+1+1,4,none⟩ (.slice o r d1)).setCell ⟨w.heap.size+1+1+1,5,none⟩ (.slice b f d1')).setCell ⟨w.heap.size+1+1+1,6,none⟩ (.int .i64 (L:Nat))) (w.heap.size+1+1+1) 96 #[.int .i64 s.al,.int .i64 (P:Nat),.slice j l c1,.int .i64 p.al,.slice o r d1,.slice b f d1',.int .i64 (L:Nat)]:=by
  simpa using ((((((bz.ab 0 (.int .i64 s.al)).ab 1 (.int .i64 (P:Nat))).ab 2 (.slice j l c1)).ab 3 (.int .i64 p.al)).ab 4 (.slice o r d1)).ab 5 (.slice b f d1')).ab 6 (.int .i64 (L:Nat))
 refine zb fun K hK=>?_;go_simp;generalize (((((((h.setCell ⟨w.heap.size+1+1+1,0,none⟩ s.al).setCell ⟨w.heap.size+1+1+1,1,none⟩ (.int .i64 (P:Nat))).setCell ⟨w.heap.size+1+1+1,2,none⟩ (.slice j l c1)).setCell ⟨w.heap.size+1+1+1,3,none⟩ p.al).setCell ⟨w.heap.size+1+1+1,4,none⟩ (.slice o r d1)).setCell ⟨w.heap.size+1+1+1,5,none⟩ (.slice b f d1')).setCell ⟨w.heap.size+1+1+1,6,none⟩ (.int .i64 (L:Nat)))=W at *;have Q:=za (show zjy w s p L (.returned (.tuple #[.agg #[s.al,.int .i64 (P:Nat),.slice j l c1,p.al,.slice o r d1,.slice b f d1',.int .i64 (L:Nat)],.bool true])) W from
  ⟨j,l,c1,o,r,d1,b,f,d1',by rw [H.out],⟨⟨S.heap.size,h.heap.size,y.frm J (fun k h1 Z e=>oM),u.frm J (fun k h1 Z e=>oM),J.size⟩,hV.out.1,hV.out.2.1,hV.out.2.2⟩,hxw.frm J (fun k hk e=>oM)⟩)
 have cf:=bW.cell;clear J bW y u kz fz bz D M O hxw;refine hK.out _ _ ?_;clear hK;refine pT ?_;refine uQ ?_;refine zf ?_;go_wp2_with fail
 exact bodyPost_ret (v:=.tuple #[.agg #[s.al,.int .i64 (P:Nat),.slice j l c1,p.al,.slice o r d1,.slice b f d1',.int .i64 (L:Nat)],.bool true]) (by simp [results,Tryz.results174,go_sem,cf]) rfl Q.out
end
section
variable {d:Nat->Nat->List Nat} {start L:List Nat} {goal:Nat->Bool} {N:Nat}
theorem zfx (h:¬ Lost d start goal L):∃ v,Found d start goal L v:=by
 have j:∃ v,(∀ l∈v,l∈L)∧∃ x,zbJ d start v x∧goal x=true:=by
  apply Classical.byContradiction;intro hn;apply h;intro v b x c;cases hg:goal x with
  |false=>rfl
  |true=>exact absurd ⟨v,b,x,c,hg⟩ hn
 have i:∀ n v,zdf v=n->(∀ l∈v,l∈L)->(∃ x,zbJ d start v x∧goal x=true)->∃ v,Found d start goal L v:=by
  intro n
  induction n using Nat.strongRecOn with
  |ind n ih =>
   intro v hn b c
   by_cases hm:∃ u,(∀ l∈u,l∈L)∧zdf u<zdf v∧∃ x,zbJ d start u x∧goal x=true
   ·obtain⟨u,f,a,g⟩:=hm;exact ih (zdf u) oM u rfl f g
   ·refine⟨v,b,c,fun u f a x hgx=>?_⟩;cases hg:goal x with
    |false=>rfl
    |true=>exact absurd ⟨u,f,a,x,hgx,hg⟩ hm
 obtain⟨v,b,c⟩:=j;exact i _ v rfl b c
theorem found_len (h:Found d [0] goal L v)(h6:∀ l∈L,l<6)(hN:0<N)(hd:∀ x l,x<N->l∈L->∀ y∈d x l,y<N):v.length<N:=by
 obtain⟨q,⟨x,E,t⟩,b⟩:=h;obtain⟨G,r,i⟩:=zbJ.dn (L:=L) (v:=[]) (u:=v) (goal:=goal) (by simpa using E) t q;have hx0:G=0:=by have:=r.ah;simpa using this
 subst hx0;have j:∃ n,Mn d L goal n 0∧n<=v.length:=by
  have p:∀ n,Dn d L goal n 0->∃ m,Mn d L goal m 0∧m<=n:=by
   intro n
   induction n using Nat.strongRecOn with
   |ind n ih =>
    intro g
    by_cases f:∃ m,m<n∧Dn d L goal m 0
    ·obtain⟨m,a,f⟩:=f;obtain⟨k,s,H⟩:=ih m a f;exact⟨k,s,oM⟩
    ·exact⟨n,⟨g,fun m a hm'=>f ⟨m,a,hm'⟩⟩,dD _⟩
  exact p _ i
 obtain⟨n,g,-⟩:=j;have C:=g.lt hN hd;obtain⟨u,D,c,y,F,o⟩:=Dn.word (v:=[]) (start:=[0]) g.1 (.nil sM);rcases Nat.lt_or_ge n v.length with B|z
 ·have:=b u c (ziF (fun l hl=>h6 l (q l hl)) (fun l hl=>h6 l (c l hl)) oM) y (by simpa using F);rw [o] at this;cases this
 ·omega
theorem firstW_ok (h6:∀ l∈L,l<6)(hN:0<N)(hd:∀ x l,x<N->l∈L->∀ y∈d x l,y<N):(∀ l∈zhb d [0] goal L,l<6)∧(zhb d [0] goal L).length<N:=by
 by_cases h:Lost d [0] goal L
 ·rw [(zgR h).1];exact⟨sM,by simpa using hN⟩
 ·obtain⟨v,a⟩:=zfx h;rw [(zfJ h6 a).1];exact⟨fun l hl=>h6 l (a.1 l hl),found_len a h6 hN hd⟩
end
theorem wstr_word (h6:∀ l∈v,l<6)(hl:v.length<=50000):zaW (wstr v)=true:=by
 unfold zaW;simp only [dG,decide_eq_true_eq];refine⟨by rw [ziE];exact hl,?_⟩;rw [List.all_eq_true];intro b hb;unfold wstr lbs at hb;rw [strOfNums_data,List.map_map] at hb;obtain⟨l,hl,rfl⟩:=List.mem_map.1 hb;have a:=h6 l hl;have c:∀ l,l<6->zdt (UInt8.ofNat (97+l))=true:=dM;have e:((fun n:Int=>UInt8.ofNat n.toNat) ∘ fun l:Nat=>((97+l:Nat):Int)) l=UInt8.ofNat (97+l):=by
  show UInt8.ofNat (((97+l:Nat):Int)).toNat=_;rw [eY]
 first
  |(rw [e];exact c l a)
  |(have:=c l a;simpa using this)
theorem vioW_word (hss:∀ s∈ss,zl s=true)(ha:zj a=true)(hp:zj p=true)(hN:zM (zbr ss [a,p])<=50000):zaW (vioW ss a p)=true∧(vioW ss a p).size<zM (zbr ss [a,p]):=by
 have b:∀ m∈zbr ss [a,p],zeL m:=by
  intro m b;unfold zbr at b;rcases List.mem_append.1 b with h|h
  ·obtain⟨s,hs,rfl⟩:=List.mem_map.1 h;exact zeT (zcD (hss s hs))
  ·simp at h;rcases h with rfl|rfl
   ·exact zbQ ha
   ·exact zbQ hp
 obtain⟨c,f⟩:=firstW_ok (d:=zcs ss a p) (goal:=zcb a p) (L:=letters (zG ss|||a.al.toNat) 6) (N:=zM (zbr ss [a,p])) (fun l hl=>(zK.1 hl).1) (zgx b) (fun x l _ hl y hy=>by
  rw [zdE] at hy;exact zjn b (zK.1 hl).1 y hy)
 unfold vioW;exact⟨wstr_word c oM,by rw [ziE];exact f⟩
theorem prod_le (hss:∀ s∈ss,zl s=true):zM (zbr ss [a,p])<=16 ^ ss.length*(a.next.length*p.next.length):=by
 induction ss with
 |nil=>simp [zbr,zM,zaC,zbO]
 |cons s r ih =>
  have b:=ih (fun s hs=>hss s (List.mem_cons_of_mem _ hs));have c:s.st.toNat<=16:=by have:=(zcD (hss s List.mem_cons_self)).2.1;omega
  show zM (zen s :: zbr r [a,p])<=_;rw [zee,fX,Nat.pow_succ]
  calc s.st.toNat*zM (zbr r [a,p])<=16*(16 ^ r.length*(a.next.length*p.next.length)):=eT c b
   _=16 ^ r.length*16*(a.next.length*p.next.length):=by rw [← Nat.mul_assoc,Nat.mul_comm 16]
theorem zfY {s:Sys} (hs:zl s=true)(ha:zj a=true)(hp:zj p=true):zaW (zbG s a p)=true∧(zbG s a p).size<=2304:=by
 have b:=(zk ha).2.1.2;have c:=(zk hp).2.1.2;have d:=prod_le (ss:=[s]) (a:=a) (p:=p) (by simpa using hs);have g:a.next.length*p.next.length<=12*12:=eT b c;simp only [List.length_singleton,Nat.pow_one] at d;obtain⟨f,h⟩:=vioW_word (ss:=[s]) (by simpa using hs) ha hp oM;unfold zbG;rw [if_pos (by unfold zcW;rw [hs,ha,hp];rfl)];exact⟨f,oM⟩
theorem zdp (hss:zB ss=true)(hp:zj p=true):zaW (zau ss p)=true∧(zau ss p).size<16 ^ ss.length*12:=by
 obtain⟨⟨i,b⟩,c⟩:=zaS hss;have d:=(zk hp).2.1.2;have f:=prod_le (a:=free) (p:=p) c;have j:free.next.length*p.next.length<=1*12:=eT (dD _) d;have k:zM (zbr ss [free,p])<=16 ^ ss.length*12:=dJ f (Nat.mul_le_mul_left _ oM);have g:16 ^ ss.length<=16 ^ 3:=eE oM b;have l:16 ^ ss.length*12<=4096*12:=Nat.mul_le_mul_right _ g;obtain⟨h,m⟩:=vioW_word c zeb hp oM;unfold zau;rw [if_pos (by unfold zcx;rw [hss,hp];rfl)];exact⟨h,oM⟩
noncomputable def zbz (s:Sys) (p:Aut) (t:Sys) (L:Nat) (a:Aut):ByteArray × Int:=
 if zcA s a p=true then (zaY (zbG s a p) L,-1)
 else if zbL [t] a=true then (zaY (zau [t] a) L,if zx s p L (zaY (zau [t] a) L)=true then -1 else 1)
 else (⟨#[]⟩,0)
section
variable {w:World} {lo hi n c lo1 hi1 m d m' d' lo2 hi2 k c2 k1 d1 k1' d1' L:Nat} {A B B' C X X':Option Addr} {s t:Sys} {p a:Aut}
theorem zfU (ht:zP w lo hi C k t)(ha:zJ w lo1 hi1 X k1 X' k1' a) :
  Calls Tryz.prog 242 #[.agg #[t.al,t.st,.slice C k c2],.agg #[a.al,.slice X k1 d1,.slice X' k1' d1']] w fun e w'=>e=.returned (.tuple #[.string (zau [t] a),.bool (zbL [t] a)])∧Ext w w':=by
 have i:=za (fun W (hW:Ext w W)=>ht.ext hW);have g:=za (fun W (hW:Ext w W)=>ha.ext hW);clear ht ha
 go_enter Tryz.func242,Tryz.ntmps242
 go_upto_region 1 with fail
 generalize U0:(w.alloc _).alloc _=f at *;obtain⟨hx0,b1,j⟩:=gI U0;clear U0;have c1:=b1.cell;have hx1:=(cY f).alloc (.cells #[t.al,t.st,.slice C k c2] 38);have d:=dV f 38 #[t.al,t.st,.slice C k c2];obtain⟨n,m,b⟩:=zjq d (i.out _ (hx0.trans hx1));have l:=(j.ext hx1).cell;have h:=za (zcf (c:=1) (d2:=d1) (d2':=d1') b (g.out _ (hx0.trans hx1)));clear b d;go_wp2_with fail
 refine h.out.mono (mQ fun w2 hx2=>?_);go_wp2_with fail
 go_ret2;exact⟨rfl,(hx0.trans hx1).trans hx2⟩
theorem zke (h:Tch w A n B m B' m' s p L)(ht:zP w lo hi C k t)(ha:zJ w lo1 hi1 X k1 X' k1' a) (vt:zl t=true) (va:zj a=true) :
  Calls Tryz.prog 175 #[.agg #[t.al,t.st,.slice C k c2],.agg #[s.al,s.st,.slice A n c,p.al,.slice B m d,.slice B' m' d',L],.agg #[a.al,.slice X k1 d1,.slice X' k1' d1']] w fun e w'=>e=.returned (.tuple #[.string (zbz s p t L a).1,.int .i64 (zbz s p t L a).2])∧Ext w w':=by
 have hL:=h.lt;have j:=za (fun W (hW:Ext w W)=>by
  obtain⟨lo,hi,D,I,_⟩:=h.at_;exact zdz (c:=c) (d1:=d1) (d1':=d1') (d2:=d) (d2':=d') (D.ext hW) (ha.ext hW) (I.ext hW))
 have HS:=za (fun W (hW:Ext w W) (y:ByteArray) hy=>by
  obtain⟨lo,hi,D,I,Z⟩:=h.at_;exact zgC (c:=c) (d:=d) (d':=d') (L:=L) (t:=y) (D.ext hW) (I.ext hW) h.sv h.pv h.lt (dJ Z hW.size) hy)
 have o:=za (fun W (hW:Ext w W)=>zfU (c2:=c2) (d1:=d1) (d1':=d1') (ht.ext hW) (ha.ext hW));have V:=za (zfY h.sv va h.pv);have hb:=za (zdp (ss:=[t]) (p:=a) (by unfold zB;simp [vt]) va);have i:=za (show zbz s p t L a=if zcA s a p=true then (zaY (zbG s a p) L,-1)
  else if zbL [t] a=true then (zaY (zau [t] a) L,if zx s p L (zaY (zau [t] a) L)=true then -1 else 1)
  else (⟨#[]⟩,0) from rfl)
 generalize zbz s p t L a=J at *;obtain⟨F,R⟩:∃ F,Hid (zbG s a p=F):=⟨_,rfl⟩;obtain⟨z,M⟩:∃ z,Hid (zau [t] a=z):=⟨_,rfl⟩;rw [R.out] at j V i;rw [M.out] at o hb i;have hx0:Ext w (((w.alloc (.cells #[t.al,t.st,.slice C k c2] 38)).alloc (.cells #[s.al,s.st,.slice A n c,p.al,.slice B m d,.slice B' m' d',L] 96)).alloc (.cells #[a.al,.slice X k1 d1,.slice X' k1' d1'] 31)):=(((cY _).alloc _).alloc _).alloc _;obtain⟨b1,G,H⟩:=zL (cY (((w.alloc (.cells #[t.al,t.st,.slice C k c2] 38)).alloc (.cells #[s.al,s.st,.slice A n c,p.al,.slice B m d,.slice B' m' d',L] 96)).alloc (.cells #[a.al,.slice X k1 d1,.slice X' k1' d1'] 31)));clear h ht ha vt va;cases hub:zcA s a p
 ·cases hbb:zbL [t] a
  ·have zkx:=za (show J=(⟨#[]⟩,0) by rw [i.out,hub,hbb];rfl);rw [hub] at j;rw [hbb] at o;rw [zkx.out];clear i zkx hub hbb
   go_enter Tryz.func175,Tryz.ntmps175
   go_upto_region 1 with fail
   generalize ((w.alloc _).alloc _).alloc _=v at *;have U:=b1.cells;have T:=G.cells;have S:=H.cells;have hww:=cY v;go_wp2_with (first
    |(go_at_call 72;refine (j.out _ hx0).mono (mQ fun Y hx1=>?_))
    |(go_at_call 242;refine (o.out _ (hx0.trans hx1)).mono (mQ fun w2 hx2=>?_);have g:=hx1.trans hx2))
   go_ret2;exact⟨rfl,hx0.trans g⟩
  ·obtain⟨f,r⟩:∃ f,Hid (zaY z L=f):=⟨_,rfl⟩;have x:=za (fun W=>zcL (w:=W) (s:=z) (a:=L) hb.out.1 oM);have O:=za (show f.size<=9223372036854775807 by
    rw [← r.out];have D:=zbk (zaM (zdN hb.out.1 L));omega)
   rw [r.out] at x i;have q:=za (fun W (hW:Ext w W)=>HS.out W hW f O.out);obtain⟨E,Q⟩:∃ E,Hid (zx s p L f=E):=⟨_,rfl⟩;rw [Q.out] at q i;rw [hub] at j;rw [hbb] at o;have zkx:=za (show J=(f,if E=true then -1 else 1) by rw [i.out,hub,hbb];rfl);rw [zkx.out];clear i zkx hub hbb;cases E
   all_goals
    go_enter Tryz.func175,Tryz.ntmps175
    go_upto_region 1 with fail
    generalize ((w.alloc _).alloc _).alloc _=v at *;have U:=b1.cells;have T:=G.cells;have S:=H.cells;have hww:=cY v;go_wp2_with (first
     |(go_at_call 72;refine (j.out _ hx0).mono (mQ fun Y hx1=>?_))
     |(go_at_call 242;refine (o.out _ (hx0.trans hx1)).mono (mQ fun w2 hx2=>?_);have g:=hx1.trans hx2)
     |(go_at_call 73;refine (x.out _).mono (mQ fun w3 l=>?_);have b:=g.trans l)
     |(go_at_call 75;refine (q.out _ (hx0.trans b)).mono (mQ fun w4 hx4=>?_);have u:=b.trans hx4))
    go_ret2;exact⟨rfl,hx0.trans u⟩
 ·have x:=za (fun W=>zcL (w:=W) (s:=F) (a:=L) V.out.1 oM);rw [hub] at j;have zkx:=za (show J=(zaY F L,-1) by rw [i.out,hub];rfl);rw [zkx.out];clear i zkx hub
  go_enter Tryz.func175,Tryz.ntmps175
  go_upto_region 1 with fail
  generalize ((w.alloc _).alloc _).alloc _=v at *;have U:=b1.cells;have T:=G.cells;have S:=H.cells;have hww:=cY v;go_wp2_with (first
   |(go_at_call 72;refine (j.out _ hx0).mono (mQ fun Y hx1=>?_))
   |(go_at_call 73;refine (x.out _).mono (mQ fun w3 l=>?_);have b:=hx1.trans l))
  go_ret2;exact⟨rfl,hx0.trans b⟩
end
structure Vd where
 code:Int
 asm:Aut
 tr:ByteArray
 ro:Nat
def noA:Aut:=⟨0,[],[]⟩
noncomputable def runT (s t:Sys) (p:Aut) (L:Nat):Nat->Nat->Option (List ByteArray × List ByteArray)->Vd
 |0,k,_=>⟨2,noA,⟨#[]⟩,k⟩
 |_+1,k,none=>⟨2,noA,⟨#[]⟩,k⟩
 |f+1,k,some tab =>
  if (zbz s p t L (zeq L (zx s p L) tab.1 tab.2)).2=0 then ⟨0,zeq L (zx s p L) tab.1 tab.2,⟨#[]⟩,k+1⟩
  else if (zbz s p t L (zeq L (zx s p L) tab.1 tab.2)).2=1 then ⟨1,noA,zau [s,t] p,k+1⟩
  else runT s t p L f (k+1) (zbB L (zx s p L) tab.1 tab.2 (zbz s p t L (zeq L (zx s p L) tab.1 tab.2)).1)
def zdU (w:World) (v:Vd) (e:Ending) (w':World):Prop:=
 ∃ (A:Option Addr) (n c:Nat) (A':Option Addr) (n' c':Nat) (x:Int) (X:Option Addr) (k1 d1:Nat) (X':Option Addr) (k1' d1':Nat),
  e=.returned (.tuple #[.agg #[v.code,v.asm.al,.slice A n c,.slice A' n' c',v.tr,v.ro],.agg #[x,.slice X k1 d1,.slice X' k1' d1']])∧zac w' w.heap.size A n c A' n' c' v.asm∧Ext w w'
def zeN (L:Nat) (f:ByteArray->Bool) (o:Option (List ByteArray × List ByteArray)):Prop:=∀ rs cs,o=some (rs,cs)->zcn L f rs cs∧zaV L f rs cs=none
theorem zeN.new (L:Nat) (f:ByteArray->Bool):zeN L f ((zav L f [⟨#[]⟩] 11 [⟨#[]⟩]).map fun r=>(r,[⟨#[]⟩])):=by
 intro rs cs h;obtain⟨r,c,e⟩:=Option.map_eq_some_iff.1 h;obtain⟨rfl,rfl⟩:=Prod.mk.inj e;obtain⟨a,b,-⟩:=zhU 11 _ _ (zcn.first L f) dM c
 exact⟨a,b⟩
theorem zeN.aw {f:ByteArray->Bool} {rows cols:List ByteArray}(h:zcn L f rows cols) (x:ByteArray):zeN L f (zbB L f rows cols x):=by
 intro rs cs hl;unfold zbB at hl
 split at hl
 ·cases hl
 ·rename_i col hc
  split at hl
  ·rename_i ha;obtain⟨r,d,e⟩:=Option.map_eq_some_iff.1 hl;obtain⟨rfl,rfl⟩:=Prod.mk.inj e;have c:=h.addC ha;obtain⟨a,b,-⟩:=zhU _ _ _ c (oH h.r12) d;exact⟨a,b⟩
  ·cases hl
theorem judgeT_size {s:Sys}    (hs:zl s=true)(hp:zj p=true)(ht:zl t=true)(ha:zj a=true):(zbz s p t L a).1.size<=50000:=by
 have b:=zfY hs ha hp;have c:=zdp (ss:=[t]) (p:=a) (by unfold zB;simp [ht]) ha;unfold zbz;split
 ·exact zbk (zaM (zdN b.1 L))
 ·split
  ·exact zbk (zaM (zdN c.1 L))
  ·exact dF _
def TabM (w0 W:World) (g:Nat) (o:Option (List ByteArray × List ByteArray)):Prop:=
 ∃ (nr nc:Nat) (R:Option Addr) (cr:Nat) (C:Option Addr) (cc:Nat),Blk W g 101 #[.slice R nr cr,.slice C nc cc]∧nr<=cr∧nc<=cc ∧
  ∀ rs cs,o=some (rs,cs)->W.ownsRow w0.heap.size 9 1 (.slice R nr cr) nr (zS rs)∧W.ownsRow w0.heap.size 9 1 (.slice C nc cc) nc (zS cs)
theorem TabM.far {W':World}  {o:Option (List ByteArray × List ByteArray)}  {t:TypeId}(h:TabM w0 W g o)(hB:Blk W G t cs)(hf:Frm (fun k=>k=G) W W')(hg:g≠G)(ht:9≠t):TabM w0 W' g o:=by
 obtain⟨l,j,R,d,C,c,hb,f,i,a⟩:=h;exact⟨l,j,R,d,C,c,hb.frm hf hg,f,i,fun rs cs e=>⟨zg (a rs cs e).1 hf (fun b hv e'=>zr (a rs cs e).1 hB ht hv e'),zg (a rs cs e).2 hf (fun b hv e'=>zr (a rs cs e).2 hB ht hv e')⟩⟩
theorem zdc.fill {o:Option (List ByteArray × List ByteArray)} (h:zdc w o e W)(hw:w0.heap.size<=w.heap.size) :
  Ext w W∧∃ (nr nc:Nat) (R:Option Addr) (cr:Nat) (C:Option Addr) (cc:Nat),e=.returned (.tuple #[.agg #[.slice R nr cr,.slice C nc cc],.bool o.isSome])∧nr<=cr∧nc<=cc ∧
   ∀ rs cs,o=some (rs,cs)->W.ownsRow w0.heap.size 9 1 (.slice R nr cr) nr (zS rs)∧W.ownsRow w0.heap.size 9 1 (.slice C nc cc) nc (zS cs):=by
 obtain⟨c,⟨rfl,rfl⟩|⟨rs,cs,nr,nc,R,cr,C,cc,rfl,rfl,a,b⟩⟩:=h
 ·exact⟨c,0,0,none,0,none,0,rfl,dD _,dD _,fun _ _ e=>by cases e⟩
 ·refine⟨c,nr,nc,R,cr,C,cc,rfl,zhL a,zhL b,fun rs' cs' e=>?_⟩;obtain⟨rfl,rfl⟩:=Prod.mk.inj (Option.some.inj e);exact⟨zq a hw,zq b hw⟩
theorem sl_pair {lo2 hi2 k c2:Nat} {C:Option Addr} {s:Sys}(hb:Blk w g 38 #[s.al,s.st,.slice A n c,t.al,t.st,.slice C k c2])(h:zP w lo hi A n s)(h':zP w lo2 hi2 C k t):∃ lo hi,zfF w lo hi (some ⟨g,0,none⟩) 2 [s,t]:=by
 refine⟨0,hi+hi2+g+1,rfl,[.int .i64 s.al,.int .i64 s.st,.slice A n c,.int .i64 t.al,.int .i64 t.st,.slice C k c2],⟨rfl,oM,fun _=>⟨_,rfl,dF _,by dsimp only;omega,fun j u hu=>?_⟩⟩,fun j u hu=>?_⟩
 ·rw [zY,Nat.zero_add,hb.cell];simpa using hu
 ·match j with
  |0 =>
   simp at hu;subst hu;exact⟨A,n,c,rfl,rfl,rfl,h.1,h.2.more (dF _) oM⟩
  |1 =>
   simp at hu;subst hu;exact⟨C,k,c2,rfl,rfl,rfl,h'.1,h'.2.more (dF _) oM⟩
  |j+2=>simp at hu
theorem zdU.drew {v:Vd} (h:zdU w v e W):zdU w v e W.drew:=by
 obtain⟨A,n,c,a,g,b,x,X,k1,d1,X',k1',d1',d,ho,f⟩:=h;have hd:Ext W W.drew:=(cY W).drew;exact⟨A,n,c,a,g,b,x,X,k1,d1,X',k1',d1',d,ho.ext hd,f.trans hd⟩
theorem zdU.cast {v u:Vd} (hu:u=v)(h:zdU w v e W):zdU w u e W:=hu ▸ h
def roAt (W:World) (g:Nat):Nat:=match W.cell? ⟨g,5,none⟩ with|some (.int _ z)=>z.toNat|_=>0
theorem roAt_blk {t:TypeId} {u0 u1 u2 u3 u4:Value}(h:Blk W g t #[u0,u1,u2,u3,u4,j]):roAt W g=j:=by
 unfold roAt;rw [h.cell 5];exact eY j
theorem runT_end {s:Sys}   {o:Option (List ByteArray × List ByteArray)}(h:¬ (o.isSome=true∧j<K)):runT s t p L (K - j) j o=⟨2,noA,⟨#[]⟩,j⟩:=by
 cases hk:K - j with
 |zero=>rfl
 |succ f =>
  cases o with
  |none=>rfl
  |some tab=>exact absurd ⟨rfl,oM⟩ h
theorem zim (W:World) (Z:Nat) (u0 u1 u2 u3 u4 u5:Value):Frm (fun k=>k=Z) W ((((((W.setCell Z u0).setCell ⟨Z,1,none⟩ u1).setCell ⟨Z,2,none⟩ u2).setCell ⟨Z,3,none⟩ u3).setCell ⟨Z,4,none⟩ u4).setCell ⟨Z,5,none⟩ u5):=
 (((((dE W _ 0 _).trans (dE _ _ 1 _)).trans (dE _ _ 2 _)).trans (dE _ _ 3 _)).trans (dE _ _ 4 _)).trans (dE _ _ 5 _)
theorem Frm.drew {S:Nat->Prop} {a:World}(h:Frm S a w):Frm S a w.drew:=⟨h.os,h.tape,h.output,h.size,h.block⟩
theorem zhO {k1 d1 k1' d1':Nat} {X X':Option Addr} {v:Vd} {x:Int} {vs us:Array Value}(hx:Ext w W)(hv:Blk W Z 67 vs)(hu:Blk W (Z+1) 31 us)(h6:vs.size=6)(h3:us.size=3)(hZ:w.heap.size<=Z)(ho:zac W w.heap.size A n c A' n' c' v.asm) :
  Hid (zdU w v (.returned (.tuple #[.agg #[v.code,v.asm.al,.slice A n c,.slice A' n' c',v.tr,v.ro],.agg #[x,.slice X k1 d1,.slice X' k1' d1']]))
   (((((((((W.setCell Z v.code).setCell ⟨Z,1,none⟩ v.asm.al).setCell ⟨Z,2,none⟩ (.slice A n c)).setCell ⟨Z,3,none⟩ (.slice A' n' c')).setCell ⟨Z,4,none⟩ v.tr).setCell ⟨Z,5,none⟩ v.ro).setCell ⟨Z+1,0,none⟩ x).setCell ⟨Z+1,1,none⟩ (.slice X k1 d1)).setCell ⟨Z+1,2,none⟩ (.slice X' k1' d1'))) ∧
  Blk (((((((((W.setCell Z v.code).setCell ⟨Z,1,none⟩ v.asm.al).setCell ⟨Z,2,none⟩ (.slice A n c)).setCell ⟨Z,3,none⟩ (.slice A' n' c')).setCell ⟨Z,4,none⟩ v.tr).setCell ⟨Z,5,none⟩ v.ro).setCell ⟨Z+1,0,none⟩ x).setCell ⟨Z+1,1,none⟩ (.slice X k1 d1)).setCell ⟨Z+1,2,none⟩ (.slice X' k1' d1')) Z 67 #[v.code,v.asm.al,.slice A n c,.slice A' n' c',v.tr,v.ro] ∧
  Blk (((((((((W.setCell Z v.code).setCell ⟨Z,1,none⟩ v.asm.al).setCell ⟨Z,2,none⟩ (.slice A n c)).setCell ⟨Z,3,none⟩ (.slice A' n' c')).setCell ⟨Z,4,none⟩ v.tr).setCell ⟨Z,5,none⟩ v.ro).setCell ⟨Z+1,0,none⟩ x).setCell ⟨Z+1,1,none⟩ (.slice X k1 d1)).setCell ⟨Z+1,2,none⟩ (.slice X' k1' d1')) (Z+1) 31 #[.int .i64 x,.slice X k1 d1,.slice X' k1' d1']:=by
 obtain⟨i⟩:=vs
 match i,h6 with
 |[a0,a1,a2,a3,a4,a5],_ =>
 have a:Frm (fun k=>k=Z) W ((((((W.setCell Z v.code).setCell ⟨Z,1,none⟩ v.asm.al).setCell ⟨Z,2,none⟩ (.slice A n c)).setCell ⟨Z,3,none⟩ (.slice A' n' c')).setCell ⟨Z,4,none⟩ v.tr).setCell ⟨Z,5,none⟩ v.ro):=
  (((((dE W _ 0 _).trans (dE _ _ 1 _)).trans (dE _ _ 2 _)).trans (dE _ _ 3 _)).trans (dE _ _ 4 _)).trans (dE _ _ 5 _)
 have g:Blk ((((((W.setCell Z v.code).setCell ⟨Z,1,none⟩ v.asm.al).setCell ⟨Z,2,none⟩ (.slice A n c)).setCell ⟨Z,3,none⟩ (.slice A' n' c')).setCell ⟨Z,4,none⟩ v.tr).setCell ⟨Z,5,none⟩ v.ro) Z 67 #[.int .i64 v.code,.int .i64 v.asm.al,.slice A n c,.slice A' n' c',.string v.tr,.int .i64 v.ro]:=by
  simpa using (((((hv.ab 0 (.int .i64 v.code)).ab 1 (.int .i64 v.asm.al)).ab 2 (.slice A n c)).ab 3 (.slice A' n' c')).ab 4 (.string v.tr)).ab 5 (.int .i64 v.ro)
 have f:=ho.ar hv a dM;have d:=hu.frm a oM;have hx1:Ext w ((((((W.setCell Z v.code).setCell ⟨Z,1,none⟩ v.asm.al).setCell ⟨Z,2,none⟩ (.slice A n c)).setCell ⟨Z,3,none⟩ (.slice A' n' c')).setCell ⟨Z,4,none⟩ v.tr).setCell ⟨Z,5,none⟩ v.ro):=hx.frm a (fun k hk e=>oM);generalize (((((W.setCell Z v.code).setCell ⟨Z,1,none⟩ v.asm.al).setCell ⟨Z,2,none⟩ (.slice A n c)).setCell ⟨Z,3,none⟩ (.slice A' n' c')).setCell ⟨Z,4,none⟩ v.tr).setCell ⟨Z,5,none⟩ v.ro=h at *;have b:=zaw h (Z+1) (.int .i64 x) (.slice X k1 d1) (.slice X' k1' d1');exact⟨za ⟨A,n,c,A',n',c',x,X,k1,d1,X',k1',d1',rfl,f.ar d b dM,hx1.frm b (fun k hk e=>oM)⟩,g.frm b oM,zaI d h3 _ _ _⟩
section
variable {w:World} {lo hi n c lo1 hi1 m d m' d' lo2 hi2 k c2:Nat} {A B B' C:Option Addr} {s t:Sys} {p:Aut}
theorem yE13a4 {P:Prop}(h:P:=by
 clear hflag hgo ho hon hne1 hne2 hd hb8 hb9' hxw;go_wp2_with fail
 refine zbH (fun Y=>Frm (fun b=>b=Z) wr Y) [3] (zv.of [0,1,2,3]) kM kM kM kM kM (fun _ _ _ _ _ h=>h) hS0 ?_;refine zbU (v:=?_) rfl rfl rfl rfl (fun X hX=>?_) ?_
 rotate_left
 focus (go_simp<;>with_reducible rfl)
 refine pT ?_;refine zbU (v:=?_) rfl rfl rfl rfl (fun X hX=>?_) ?_
 rotate_left
 focus (go_simp<;>with_reducible rfl)
 refine pT ?_;refine ze fun K hK=>?_;go_simp;refine hK.out _ _ hf8.out.drew ?_;refine pT ?_;refine zb fun K hK=>?_;go_simp;refine hK.out _ _ ?_;refine zf ?_;go_wp2_with fail
 have cf2:=F2.out.cell;have cf3:=F3.out.cell;exact bodyPost_ret (v:=.tuple #[.agg #[(2:Int),(0:Int),(),(),.string ⟨#[]⟩,j],.agg #[x,.slice X k1 d1,.slice X' k1' d1']]) (by simp [results,Tryz.results97,go_sem,cf2,cf3]) rfl F1.out
 ):P:=h
theorem spec_l12Run (hs:zP w lo hi A n s)(hp:zJ w lo1 hi1 B m B' m' p)(ht:zP w lo2 hi2 C k t)(hif:iface s p t=(L:Int))(hn:n<=1000000)(hhi:hi<=w.heap.size)(hK:K<=1000) :
  Calls Tryz.prog 97 #[.agg #[s.al,s.st,.slice A n c],.agg #[t.al,t.st,.slice C k c2],.agg #[p.al,.slice B m d,.slice B' m' d'],K] w
   (zdU w (runT s t p L K 0 ((zav L (zx s p L) [⟨#[]⟩] 11 [⟨#[]⟩]).map fun r=>(r,[⟨#[]⟩])))):=by
 obtain⟨vs,vp,vt⟩:=zbx (show 0<=iface s p t by omega);have Hv:=za (And.intro vs (And.intro vp vt));have bo:=za (fun W (hW:Ext w W)=>spec_TaskOf (c:=c) (d:=d) (d':=d') (c2:=c2) (hs.ext hW) (hp.ext hW) (ht.ext hW) hif hn (dJ hhi hW.size));have bO:=za (fun W (hW:Ext w W)=>show Calls Tryz.prog 147 #[.slice (some W.heap.size) 2 2,.agg #[p.al,.slice B m d,.slice B' m' d']] (W.alloc (.cells #[s.al,s.st,.slice A n c,t.al,t.st,.slice C k c2] 38)) (fun e w'=>e=.returned (.tuple #[.string (zau [s,t] p),.bool (zbL [s,t] p)])∧Ext W w') by
  have f6:=(cY W).alloc (.cells #[s.al,s.st,.slice A n c,t.al,t.st,.slice C k c2] 38);obtain⟨l1,l2,cC⟩:=sl_pair (dV W 38 #[s.al,s.st,.slice A n c,t.al,t.st,.slice C k c2]) (hs.ext (hW.trans f6)) (ht.ext (hW.trans f6));exact (zcf cC (hp.ext (hW.trans f6))).mono (fun e w' h=>⟨h.1,f6.trans h.2⟩))
 have c6:=za (fun W (hW:Ext w W)=>hs.ext hW);have ct:=za (fun W (hW:Ext w W)=>ht.ext hW);obtain⟨ag,zkx⟩:∃ ag,Hid (runT s t p L K 0 ((zav L (zx s p L) [⟨#[]⟩] 11 [⟨#[]⟩]).map fun r=>(r,[⟨#[]⟩]))=ag):=⟨_,rfl⟩;have bh:=za (zeN.new L (zx s p L));rw [zkx.out];obtain⟨aB,bf⟩:∃ aB,Hid ((zav L (zx s p L) [⟨#[]⟩] 11 [⟨#[]⟩]).map (fun r=>(r,[(⟨#[]⟩:ByteArray)]))=aB):=⟨_,rfl⟩;rw [bf.out] at zkx bh;clear hs hp ht hif vs vp vt;obtain⟨w0,U0⟩:∃ x,Hid (((((w.alloc (.cells #[s.al,s.st,.slice A n c] 38)).alloc (.cells #[t.al,t.st,.slice C k c2] 38)).alloc (.cells #[p.al,.slice B m d,.slice B' m' d'] 31)).alloc (.cells #[(0:Int),(0:Int),(),(),.string ⟨#[]⟩,(0:Int)] 67)).alloc (.cells #[(0:Int),(),()] 31)=x):=⟨_,za rfl⟩;have hx0:Ext w w0:=((((((cY _).alloc _).alloc _).alloc _).alloc _).alloc _).trans (eP U0.out);obtain⟨b1,b2,b3⟩:=zL ((((cY _).alloc _).alloc _).trans (eP U0.out));obtain⟨b8,b9⟩:=zO (eP U0.out);simp only [World.size_alloc] at b8 b9
 go_enter Tryz.func97,Tryz.ntmps97
 go_upto_region 1 with fail
 rw [U0.out] at *;have CS:=b1.cells;have CT:=b2.cells;have CP:=b3.cells;have dg:=b9.lt;have df:w.heap.size<=w.heap.size+1+1+1:=oM;generalize w.heap.size+1+1+1=Z at *;have hww:=cY w0;go_upto_region 2 with (first
  |(go_at_call 174;refine (bo.out _ hx0).mono ?_;rintro e w1 ⟨A,n,c,B,m,d,B',m',d',rfl,bg,cb⟩))
 have cK:=(dV w1 96 #[s.al,s.st,.slice A n c,p.al,.slice B m d,.slice B' m' d',L]).cell;go_upto_region 5 with fail
 obtain⟨bL,bV⟩:∃ bL,Hid (w1.heap.size=bL):=⟨_,rfl⟩;generalize U0:(w1.alloc _).alloc _=w2 at *;obtain⟨bi,bK,bT⟩:=gI U0;clear U0;rw [bV.out] at bK bT ⊢;clear cK;have V:=bg.ext bi;have a:=cb.trans bi;have dh:=bT.lt;have bN:=za (fun W (hW:Ext w2 W)=>zkb (c:=c) (d:=d) (d':=d') (V.ext hW));rw [bf.out] at bN;have cu:=za (fun (R:Option Addr) (nr cr:Nat) (C:Option Addr) (nc cc:Nat) (rows cols:List ByteArray) W (hW:Ext w2 W) hT hI ai ah an=>zdy (c:=c) (d:=d) (d':=d') (nr:=nr) (nc:=nc) (R:=R) (C:=C) (cr:=cr) (cc:=cc) (rows:=rows) (cols:=cols) (V.ext hW) hT hI ai ah an);have cq:=za (fun (R:Option Addr) (nr cr:Nat) (C:Option Addr) (nc cc:Nat) (rows cols:List ByteArray) (x:ByteArray) W (hW:Ext w2 W) hT hI ai ah an hx=>ziR (c:=c) (d:=d) (d':=d') (nr:=nr) (nc:=nc) (R:=R) (C:=C) (cr:=cr) (cc:=cc) (rows:=rows) (cols:=cols) (x:=x) (V.ext hW) hT hI ai ah an hx);have bJ:=bT.cells;have co:=bK.cells;have cn:=fun W (hW:Ext w2 W)=>CS W (a.trans hW);have bI:=fun W (hW:Ext w2 W)=>CT W (a.trans hW);have cm:=fun W (hW:Ext w2 W)=>CP W (a.trans hW);have ca:=cY w2;clear hww CS CT CP;go_upto_region 6 with (first
  |(go_at_call 70;refine (bN.out _ ca).mono ?_;intro e w3 hret;obtain⟨bB,nr,nc,R,cr,C,cc,rfl,ai,ah,bu⟩:=hret.fill (w0:=w2) (dD _);clear hret))
 go_wp2_with fail
 obtain⟨G,hG⟩:∃ G,Hid (w3.heap.size=G):=⟨_,rfl⟩;have de:w2.heap.size<=G:=by rw [← hG.out];exact bB.size
 generalize U0:((w3.alloc _).alloc _).alloc _=w6 at *;obtain⟨ay,ak,E,ae⟩:=Ext.x3_ U0;clear U0;rw [hG.out] at ak E ae ⊢;have bj:=bB.trans ay;have aJ:TabM w2 w6 G aB:=⟨nr,nc,R,cr,C,cc,ak,ai,ah,fun rs cs e=>⟨zh (bu rs cs e).1 ay,zh (bu rs cs e).2 ay⟩⟩;clear bu ak bB ay
 go_loopw [14] (fun fv wr=>∃ (o:Option (List ByteArray × List ByteArray)) (j:Nat) (x:Int) (X:Option Addr) (k1 d1:Nat) (X':Option Addr) (k1' d1':Nat),fv=.bool o.isSome∧j<=K∧Hid (zeN L (zx s p L) o)∧Hid (runT s t p L (K - j) j o=ag)∧TabM w2 wr G o∧Blk wr (G+1) 67 #[(2:Int),(0:Int),(),(),.string ⟨#[]⟩,j]∧Blk wr (G+1+1) 31 #[x,.slice X k1 d1,.slice X' k1' d1']∧Ext w2 wr) (fun _ wr=>K - roAt wr (G+1))
 case atStart=>exact⟨aB,0,0,none,0,0,none,0,0,rfl,dF _,bh,zkx,aJ,E,ae,bj⟩
 case round =>
  clear aJ E ae bj;obtain⟨o,j,x,X,k1,d1,X',k1',d1',rfl,hj,cB,be,aJ,E,ae,aS⟩:=hrel;have au:=E.cell;have av:=ae.cell
  by_cases hgo:o.isSome=true∧j<K
  ·obtain⟨⟨⟨rs,cs⟩,rfl⟩,di⟩:(∃ q,o=some q)∧j<K:=⟨Option.isSome_iff_exists.1 hgo.1,hgo.2⟩;clear hgo;obtain⟨hI,an⟩:=cB.out rs cs rfl;have cR:(j:Int)<(K:Int):=oM;have am:=E.frozen;have a9:Blk (wr.setCell ⟨G+1,5,none⟩ (.int .i64 ((j:Int)+1))) (G+1) 67 #[.int .i64 2,.int .i64 0,.slice none 0 0,.slice none 0 0,.string ⟨#[]⟩,.int .i64 ((j:Int)+1)]:=by
    simpa using E.ab 5 (.int .i64 ((j:Int)+1))
   have bw:Frm (fun b=>b=G+1) wr (wr.setCell ⟨G+1,5,none⟩ (.int .i64 ((j:Int)+1))):=dE wr _ 5 _;have ba:=ae.frm bw oM;have bY:=aJ.far E bw oM dM;have aR:=aS.setCell (p:=⟨G+1,5,none⟩) (by dsimp only;omega) (.int .i64 ((j:Int)+1));go_upto_region 10 with fail
   have b6:=za (roAt_blk E);clear au av am aJ E ae aS bw;generalize wr.setCell ⟨G+1,5,none⟩ (.int .i64 ((j:Int)+1))=wA at *;obtain⟨nr,nc,R,cr,C,cc,ak,ai,ah,bZ⟩:=bY;obtain⟨oR,oC⟩:=bZ rs cs rfl;have a2:=za (show TabAt wA R nr C nc rs cs from ⟨_,_,_,_,eA oR,eA oC⟩);have bC:=ak.cell;have bq:=bJ wA aR;have bs:=za hI;have bd:=za an;have aY:=za (zcE hI an bg.lt);clear hI an bZ;go_upto_region 11 with (first
    |(go_at_call 71;refine (cu.out _ _ _ _ _ _ rs cs _ aR a2.out bs.out ai ah bd.out).mono ?_;rintro e wB ⟨Y,q1,e1,Y',I,D,rfl,ap,cd⟩))
   obtain⟨f,bc⟩:∃ f,Hid (zeq L (zx s p L) rs cs=f):=⟨_,rfl⟩;rw [bc.out] at ap aY ⊢;generalize U0:wB.alloc _=wC at *;have ce:=Ext.al_ U0;have bQ:=dU U0;have aL:=ap.ext ce;clear U0;have T:=cd.trans ce;have F:=ba.ext T;have a7:=a9.ext T;have a5:=ak.ext T;have bE:=zh oR T;have bD:=zh oC T;have av:=F.cell;have cy:=F.frozen;have cD:=bQ.cell;have ao:=zaw wC (G+1+1) (.int .i64 f.al) (.slice Y q1 e1) (.slice Y' I D);have aE:=zaI F rfl (.int .i64 f.al) (.slice Y q1 e1) (.slice Y' I D);have a8:=a7.frm ao oM;have a6:=a5.frm ao oM;have cj:=zg bE ao (fun b hv e=>zr bE F dM hv e);have ci:=zg bD ao (fun b hv e=>zr bD F dM hv e);have aq:=aL.ar F ao dM;have aQ:=((aR.trans T).frm ao (fun k hk e=>oM));have dk:=za (aR.trans cd).size;have dj:=za aR.size;clear F a7 a5 bE bD ao aL ap bQ ba a9 ak oR oC bC bq a2;go_upto_region 12 with fail
   generalize ((wC.setCell ⟨G+1+1,0,none⟩ f.al).setCell ⟨G+1+1,1,none⟩ (.slice Y q1 e1)).setCell ⟨G+1+1,2,none⟩ (.slice Y' I D)=wD at *;clear av cy cD;have HJ:=za (zke (c:=c) (d:=d) (d':=d') (c2:=c2) (d1:=e1) (d1':=D) (V.ext aQ) (ct.out wD (hx0.trans (a.trans aQ))) aq.reads Hv.out.2.2 aY.out);have bW:=za (judgeT_size (L:=L) Hv.out.1 Hv.out.2.1 Hv.out.2.2 aY.out);obtain⟨J,hJ⟩:∃ J,Hid (zbz s p t L f=J):=⟨_,rfl⟩;rw [hJ.out] at HJ bW;have av:=aE.cell;have cw:=co wD aQ;have cx:=bI wD aQ;go_upto_region 13 with (first
    |(go_at_call 175;refine HJ.out.mono (mQ fun wE ar=>?_)))
   have g:=aQ.trans ar;have Q:=aE.ext ar;have l:=a8.ext ar;have ad:=a6.ext ar;have a0:=zh cj ar;have aZ:=zh ci ar;have U:=aq.ext ar;clear av cw cx aE a8 a6 cj ci aq HJ;have z:=za (show (if J.2=0 then (⟨0,f,⟨#[]⟩,j+1⟩:Vd) else if J.2=1 then ⟨1,noA,zau [s,t] p,j+1⟩ else runT s t p L (K - (j+1)) (j+1) (zbB L (zx s p L) rs cs J.1))=ag by
    rw [← be.out,show K - j=(K - (j+1))+1 by omega];show _=runT s t p L ((K - (j+1))+1) j (some (rs,cs));rw [runT,bc.out,hJ.out])
   by_cases hJ0:J.2=0
   ·have aK:=za (show ag=⟨0,f,⟨#[]⟩,j+1⟩ by rw [← z.out,if_pos hJ0]);have au:=l.cell;have am:=l.frozen;have u:Blk (wE.setCell ⟨G+1,0,none⟩ (0:Int)) (G+1) 67 #[.int .i64 0,.int .i64 0,.slice none 0 0,.slice none 0 0,.string ⟨#[]⟩,.int .i64 ((j:Int)+1)]:=by
     simpa using l.ab 0 (.int .i64 0)
    have bx:Frm (fun b=>b=G+1) wE (wE.setCell ⟨G+1,0,none⟩ (0:Int)):=dE wE _ 0 _;have S:=Q.frm bx oM;have aN:=U.ar l bx dM;have aj:=g.setCell (p:=⟨G+1,0,none⟩) (by dsimp only;omega) (.int .i64 0);clear z ad Q a0 aZ bx U l;go_upto_region 16 with fail
    generalize wE.setCell ⟨G+1,0,none⟩ (0:Int)=wF at *;clear au am hJ0;have bM:=za (zay (c:=e1) (c':=D) aN.reads (zdg aY.out));have av:=S.cell;go_upto_region 17 with (first
     |(go_at_call 119;refine bM.out.mono ?_;rintro e wG ⟨Z1,z1,y1,Z2,z2,y2,rfl,aO,aa⟩;have au:=(u.ext aa).cell;have am:=(u.ext aa).frozen))
    have O:=u.ext aa;have af:=S.ext aa;have i:Frm (fun b=>b=G+1) wG (((wG.setCell ⟨G+1,1,none⟩ f.al).setCell ⟨G+1,2,none⟩ (.slice Z1 z1 y1)).setCell ⟨G+1,3,none⟩ (.slice Z2 z2 y2)):=((dE wG _ 1 _).trans (dE _ _ 2 _)).trans (dE _ _ 3 _);have y:Blk (((wG.setCell ⟨G+1,1,none⟩ f.al).setCell ⟨G+1,2,none⟩ (.slice Z1 z1 y1)).setCell ⟨G+1,3,none⟩ (.slice Z2 z2 y2)) (G+1) 67 #[.int .i64 0,.int .i64 f.al,.slice Z1 z1 y1,.slice Z2 z2 y2,.string ⟨#[]⟩,.int .i64 ((j:Int)+1)]:=by
     simpa using ((O.ab 1 (.int .i64 f.al)).ab 2 (.slice Z1 z1 y1)).ab 3 (.slice Z2 z2 y2)
    have H:=af.frm i oM;have aP:=(aO.ar O i dM).less (show w.heap.size<=wF.heap.size by have:=aj.size;have:=a.size;have:=hx0.size;omega);have ab:=(aj.trans aa).frm i (fun k hk e=>oM);clear au am av u S O af i aN aO bM;generalize ((wG.setCell ⟨G+1,1,none⟩ f.al).setCell ⟨G+1,2,none⟩ (.slice Z1 z1 y1)).setCell ⟨G+1,3,none⟩ (.slice Z2 z2 y2)=wH at *;have hxw:=hx0.trans (a.trans ab);have hb8:=b8.ext (a.trans ab);have hb9':=b9.ext (a.trans ab);obtain⟨f1,f2,f3⟩:=zhO (v:=⟨0,f,⟨#[]⟩,j+1⟩) (x:=f.al) (X:=Y) (k1:=q1) (d1:=e1) (X':=Y') (k1':=I) (d1':=D) hxw hb8 hb9' rfl rfl oM aP;have F1:=za (zdU.cast aK.out f1.out.drew);clear f1;simp only [iE,Int.cast_ofNat_Int] at F1 f2 f3;have F2:=za f2;have F3:=za f3;clear f2 f3;have k8:=hb8.cell;have z8:=hb8.frozen;have k9:=hb9'.cell;have z9:=hb9'.frozen;have hne1:G+1≠Z:=oH a.size;have hne2:G+1+1≠Z:=oH a.size;have bF:∀ W,Frm (fun b=>b=Z) wH W->∀ q,W.cell? ⟨G+1,q,none⟩=#[Value.int .i64 0,.int .i64 f.al,.slice Z1 z1 y1,.slice Z2 z2 y2,.string ⟨#[]⟩,.int .i64 ((j:Int)+1)][q]?:=fun W hW=>(y.frm hW hne1).cell;have bG:∀ W,Frm (fun b=>b=Z) wH W->∀ q,W.cell? ⟨G+1+1,q,none⟩=#[Value.int .i64 f.al,.slice Y q1 e1,.slice Y' I D][q]?:=fun W hW=>(H.frm hW hne2).cell;have hS0:Frm (fun b=>b=Z) wH wH.drew:=⟨rfl,rfl,rfl,dD _,fun _ _ _=>rfl⟩;have hf8:=za (zim wH Z (.int .i64 0) (.int .i64 f.al) (.slice Z1 z1 y1) (.slice Z2 z2 y2) (.string ⟨#[]⟩) (.int .i64 ((j:Int)+1)));clear y H aP hb8 hb9' hxw hne1 hne2;go_wp2_with fail
    refine zbH (fun Y=>Frm (fun b=>b=Z) wH Y) [3] (zv.of [0,1,2,3]) kM kM kM kM kM (fun _ _ _ _ _ h=>h) hS0 ?_;refine zbU (v:=?_) rfl rfl rfl rfl (fun X hX=>?_) ?_
    rotate_left
    focus (go_simp<;>with_reducible rfl)
    refine pT ?_;refine zbU (v:=?_) rfl rfl rfl rfl (fun X hX=>?_) ?_
    rotate_left
    focus (go_simp<;>with_reducible rfl)
    refine pT ?_;refine ze fun K hK=>?_;go_simp;refine hK.out _ _ hf8.out.drew ?_;refine pT ?_;refine zb fun K hK=>?_;go_simp;refine hK.out _ _ ?_;refine zf ?_;go_wp2_with fail
    have cf2:=F2.out.cell;have cf3:=F3.out.cell;exact bodyPost_ret (v:=.tuple #[.agg #[(0:Int),f.al,.slice Z1 z1 y1,.slice Z2 z2 y2,.string ⟨#[]⟩,((j:Int)+1:Int)],.agg #[f.al,.slice Y q1 e1,.slice Y' I D]]) (by simp [results,Tryz.results97,go_sem,cf2,cf3]) rfl F1.out
   ·by_cases hJ1:J.2=1
    ·have aK:=za (show ag=⟨1,noA,zau [s,t] p,j+1⟩ by rw [← z.out,if_neg hJ0,if_pos hJ1]);have HP:=za (bO.out wE (hx0.trans (a.trans g)));have cS:=cn wE g;have cT:=bI wE g;have cP:∀ (v:Array Value) (q:Nat),(wE.alloc (.cells v 38)).cell? ⟨w.heap.size+1+1,q,none⟩=_:=fun v q=>cm _ (g.trans ((cY wE).alloc _)) q;clear hJ0 z ad a0 aZ U;go_upto_region 20 with (first
      |(go_at_call 147;refine HP.out.mono (mQ fun wF aj=>?_);clear cS cT cP))
     have u:=l.ext aj;have S:=Q.ext aj;have cf:=g.trans aj;have au:=u.cell;have am:=u.frozen;clear HP l Q;go_upto_region 22 with fail
     have i:Frm (fun b=>b=G+1) wF ((wF.setCell ⟨G+1,0,none⟩ (1:Int)).setCell ⟨G+1,4,none⟩ (.string (zau [s,t] p))):=(dE wF _ 0 _).trans (dE _ _ 4 _);have y:Blk ((wF.setCell ⟨G+1,0,none⟩ (1:Int)).setCell ⟨G+1,4,none⟩ (.string (zau [s,t] p))) (G+1) 67 #[.int .i64 1,.int .i64 0,.slice none 0 0,.slice none 0 0,.string (zau [s,t] p),.int .i64 ((j:Int)+1)]:=by
      simpa using (u.ab 0 (.int .i64 1)).ab 4 (.string (zau [s,t] p))
     have H:=S.frm i oM;have ab:=cf.frm i (fun k hk e=>oM);clear au am u S i hJ1;generalize (wF.setCell ⟨G+1,0,none⟩ (1:Int)).setCell ⟨G+1,4,none⟩ (.string (zau [s,t] p))=wH at *;have hxw:=hx0.trans (a.trans ab);have hb8:=b8.ext (a.trans ab);have hb9':=b9.ext (a.trans ab);obtain⟨f1,f2,f3⟩:=zhO (v:=⟨1,noA,zau [s,t] p,j+1⟩) (A:=none) (n:=0) (c:=0) (A':=none) (n':=0) (c':=0) (x:=f.al) (X:=Y) (k1:=q1) (d1:=e1) (X':=Y') (k1':=I) (d1':=D) hxw hb8 hb9' rfl rfl oM (⟨⟨[],World.ownsRow_nil _ _ _ _,zH.nil _ _⟩,rfl,World.ownsRow_nil _ _ _ _,rfl⟩:zac wH w.heap.size none 0 0 none 0 0 noA);have F1:=za (zdU.cast aK.out f1.out.drew);clear f1;simp only [noA,iE,Int.cast_ofNat_Int] at F1 f2 f3;have F2:=za f2;have F3:=za f3;clear f2 f3;have k8:=hb8.cell;have z8:=hb8.frozen;have k9:=hb9'.cell;have z9:=hb9'.frozen;have hne1:G+1≠Z:=oH a.size;have hne2:G+1+1≠Z:=oH a.size;have bF:∀ W,Frm (fun b=>b=Z) wH W->∀ q,W.cell? ⟨G+1,q,none⟩=#[Value.int .i64 1,.int .i64 0,.slice none 0 0,.slice none 0 0,.string (zau [s,t] p),.int .i64 ((j:Int)+1)][q]?:=fun W hW=>(y.frm hW hne1).cell;have bG:∀ W,Frm (fun b=>b=Z) wH W->∀ q,W.cell? ⟨G+1+1,q,none⟩=#[Value.int .i64 f.al,.slice Y q1 e1,.slice Y' I D][q]?:=fun W hW=>(H.frm hW hne2).cell;have hS0:Frm (fun b=>b=Z) wH wH.drew:=⟨rfl,rfl,rfl,dD _,fun _ _ _=>rfl⟩;have hf8:=za (zim wH Z (.int .i64 1) (.int .i64 0) (.slice none 0 0) (.slice none 0 0) (.string (zau [s,t] p)) (.int .i64 ((j:Int)+1)));clear y H hb8 hb9' hxw hne1 hne2;go_wp2_with fail
     refine zbH (fun Y=>Frm (fun b=>b=Z) wH Y) [3] (zv.of [0,1,2,3]) kM kM kM kM kM (fun _ _ _ _ _ h=>h) hS0 ?_;refine zbU (v:=?_) rfl rfl rfl rfl (fun X hX=>?_) ?_
     rotate_left
     focus (go_simp<;>with_reducible rfl)
     refine pT ?_;refine zbU (v:=?_) rfl rfl rfl rfl (fun X hX=>?_) ?_
     rotate_left
     focus (go_simp<;>with_reducible rfl)
     refine pT ?_;refine ze fun K hK=>?_;go_simp;refine hK.out _ _ hf8.out.drew ?_;refine pT ?_;refine zb fun K hK=>?_;go_simp;refine hK.out _ _ ?_;refine zf ?_;go_wp2_with fail
     have cf2:=F2.out.cell;have cf3:=F3.out.cell;exact bodyPost_ret (v:=.tuple #[.agg #[(1:Int),(0:Int),(),(),.string (zau [s,t] p),((j:Int)+1:Int)],.agg #[f.al,.slice Y q1 e1,.slice Y' I D]]) (by simp [results,Tryz.results97,go_sem,cf2,cf3]) rfl F1.out
    ·have e0:(J.2==0)=false:=by simpa using hJ0
     have e2:(J.2==1)=false:=by simpa using hJ1
     have bA:=za (show runT s t p L (K - (j+1)) (j+1) (zbB L (zx s p L) rs cs J.1)=ag by
      have:=z.out;rw [if_neg hJ0,if_neg hJ1] at this;exact this)
     clear hJ0 hJ1 z;have bq:=bJ wE g;have bC:=ad.cell;have bp:=za (show TabAt wE R nr C nc rs cs from ⟨_,_,_,_,eA a0,eA aZ⟩);go_upto_region 24 with (first
      |(go_at_call 77;refine (cq.out _ _ _ _ _ _ rs cs J.1 _ g bp.out bs.out ai ah bd.out (oH bW.out)).mono ?_;intro e wF hret;obtain⟨aj,aU,aT,R2,aG,C2,aF,rfl,b4,b0,bt⟩:=hret.fill (w0:=w2) g.size;clear hret))
     have b7:=za (zeN.aw bs.out J.1);generalize zbB L (zx s p L) rs cs J.1=oL at *;generalize U0:wF.alloc _=wG at *;have aa:=Ext.al_ U0;have bR:=dU U0;clear U0;have az:=aj.trans aa;have M:=ad.ext az;have O:=l.ext az;have af:=Q.ext az;have cg:=g.trans az;have cE:=bR.cell;have ch:=M.cell;have bU:=M.frozen;have i:Frm (fun b=>b=G) wG ((wG.setCell G (.slice R2 aU aG)).setCell ⟨G,1,none⟩ (.slice C2 aT aF)):=(dE wG _ 0 _).trans (dE _ _ 1 _);have bX:TabM w2 ((wG.setCell G (.slice R2 aU aG)).setCell ⟨G,1,none⟩ (.slice C2 aT aF)) G oL:=
      ⟨aU,aT,R2,aG,C2,aF,by simpa using (M.ab 0 (.slice R2 aU aG)).ab 1 (.slice C2 aT aF),b4,b0,fun rs' cs' e=>by
       have h1:=zh (bt rs' cs' e).1 aa;have h2:=zh (bt rs' cs' e).2 aa;exact⟨zg h1 i (fun b hv e'=>zr h1 M dM hv e'),zg h2 i (fun b hv e'=>zr h2 M dM hv e')⟩⟩
     have y:=O.frm i oM;have H:=af.frm i oM;have ab:=cg.frm i (fun k hk e=>oM);clear bq bC ad l Q a0 aZ U M O af i bR bt;go_upto_region 25 with fail
     generalize (wG.setCell G (.slice R2 aU aG)).setCell ⟨G,1,none⟩ (.slice C2 aT aF)=wH at *;clear cE ch bU;have b5:((j:Int)+1)=((j+1:Nat):Int):=oM;rw [b5] at y;have bz:=za (roAt_blk y);clear b5;go_wp2_with fail
     go_roundw
     case rel=>exact⟨oL,j+1,f.al,Y,q1,e1,Y',I,D,rfl,oM,b7,bA,bX,y,H,ab⟩
     case measure=>have h1:=b6.out;have h2:=bz.out;omega
  ·have aK:=za (show ag=⟨2,noA,⟨#[]⟩,j⟩ by
    rw [← be.out];exact runT_end hgo)
   have hb8:=(b8.ext (a.trans aS));have hb9':=(b9.ext (a.trans aS));have hon:zac wr w.heap.size none 0 0 none 0 0 noA:=⟨⟨[],World.ownsRow_nil _ _ _ _,zH.nil _ _⟩,rfl,World.ownsRow_nil _ _ _ _,rfl⟩;have hflag:(o.isSome&&decide ((j:Int)<(K:Int)))=false:=by
    rw [Bool.eq_false_iff];intro h;simp only [dG,decide_eq_true_eq] at h;exact hgo ⟨h.1,oM⟩
   have hxw:=hx0.trans (a.trans aS);have hd:Ext wr wr.drew:=(cY wr).drew;obtain⟨f1,f2,f3⟩:=zhO (v:=⟨2,noA,⟨#[]⟩,j⟩) (x:=x) (X:=X) (k1:=k1) (d1:=d1) (X':=X') (k1':=k1') (d1':=d1') hxw hb8 hb9' rfl rfl oM hon;have F1:=za (zdU.cast aK.out f1.out.drew);clear f1;simp only [noA] at F1 f2 f3;have F2:=za f2;have F3:=za f3;clear f2 f3;have k8:=hb8.cell;have z8:=hb8.frozen;have k9:=hb9'.cell;have z9:=hb9'.frozen;have dl:=hx0.size;have hne1:G+1≠Z:=oH a.size;have hne2:G+1+1≠Z:=oH a.size;have bF:∀ W,Frm (fun b=>b=Z) wr W->∀ q,W.cell? ⟨G+1,q,none⟩=#[Value.int .i64 2,.int .i64 0,.slice none 0 0,.slice none 0 0,.string ⟨#[]⟩,.int .i64 j][q]?:=fun W hW=>(E.frm hW hne1).cell;have bG:∀ W,Frm (fun b=>b=Z) wr W->∀ q,W.cell? ⟨G+1+1,q,none⟩=#[Value.int .i64 x,.slice X k1 d1,.slice X' k1' d1'][q]?:=fun W hW=>(ae.frm hW hne2).cell;have hS0:Frm (fun b=>b=Z) wr wr.drew:=⟨rfl,rfl,rfl,dD _,fun _ _ _=>rfl⟩;have hf8:=za (zim wr (Z) (.int .i64 2) (.int .i64 0) (.slice none 0 0) (.slice none 0 0) (.string ⟨#[]⟩) (.int .i64 j));cases ho:o.isSome
   ·have Ho:=za ho;rw [ho] at hflag;exact yE13a4
   ·have cU:¬ ((j:Int)<(K:Int)):=fun h=>hgo ⟨ho,oM⟩;have Ho:=za ho;exact yE13a4
end
def zhn (w:World) (v:Vd) (e:Ending) (w':World):Prop:=
 ∃ (A:Option Addr) (n c:Nat) (A':Option Addr) (n' c':Nat),
  e=.returned (.agg #[v.code,v.asm.al,.slice A n c,.slice A' n' c',v.tr,v.ro])∧zac w' w.heap.size A n c A' n' c' v.asm∧Ext w w'
section
variable {w:World} {lo hi n c lo1 hi1 m d m' d' lo2 hi2 k c2:Nat} {A B B' C:Option Addr} {s t:Sys} {p:Aut}
theorem zdP {v:Vd} (HR:Hid (∀ W,Ext w W->Calls Tryz.prog 97 #[.agg #[s.al,s.st,.slice A n c],.agg #[t.al,t.st,.slice C k c2],.agg #[p.al,.slice B m d,.slice B' m' d'],(12:Int)] W (zdU W v))) :
  Calls Tryz.prog 44 #[.agg #[s.al,s.st,.slice A n c],.agg #[t.al,t.st,.slice C k c2],.agg #[p.al,.slice B m d,.slice B' m' d']] w
   (zhn w v):=by
 obtain⟨F,U0⟩:∃ x,Hid ((((w.alloc (.cells #[s.al,s.st,.slice A n c] 38)).alloc (.cells #[t.al,t.st,.slice C k c2] 38)).alloc (.cells #[p.al,.slice B m d,.slice B' m' d'] 31)).alloc (.cells #[(0:Int),(0:Int),(),(),.string ⟨#[]⟩,(0:Int)] 67)=x):=⟨_,za rfl⟩;have hx0:Ext w F:=(((((cY _).alloc _).alloc _).alloc _).alloc _).trans (eP U0.out);obtain⟨b1,G,H⟩:=zL (((cY _).alloc _).trans (eP U0.out));have E:=dU U0.out;simp only [World.size_alloc] at E
 go_enter Tryz.func44,Tryz.ntmps44
 go_upto_region 1 with fail
 rw [U0.out] at *;have c1:=b1.cell;have u:=G.cell;have J:=H.cell;go_upto_region 2 with (first
  |(go_at_call 97;refine (HR.out F hx0).mono ?_;rintro e D ⟨b,h,k1,f,i,g,x,X,L,d1,X',z,d1',rfl,ho,hx1⟩;clear c1 u J))
 have I:=(dV D 67 #[v.code,v.asm.al,.slice b h k1,.slice f i g,v.tr,v.ro]).ext ((cY _).alloc (.cells #[x,.slice X L d1,.slice X' z d1'] 31));generalize U0:(D.alloc _).alloc _=w2 at *;have hx2:=((cY D).alloc (.cells #[v.code,v.asm.al,.slice b h k1,.slice f i g,v.tr,v.ro] 67)).trans (Ext.al_ U0);clear U0;have a:=E.ext (hx1.trans hx2);have Q:=I.cell;have O:=a.cell;have M:=a.frozen;have l:=ho.ext hx2;have y:=zim w2 (w.heap.size+1+1+1) (.int .i64 v.code) (.int .i64 v.asm.al) (.slice b h k1) (.slice f i g) (.string v.tr) (.int .i64 v.ro);have j:Blk ((((((w2.setCell ⟨w.heap.size+1+1+1,0,none⟩ v.code).setCell ⟨w.heap.size+1+1+1,1,none⟩ v.asm.al).setCell ⟨w.heap.size+1+1+1,2,none⟩ (.slice b h k1)).setCell ⟨w.heap.size+1+1+1,3,none⟩ (.slice f i g)).setCell ⟨w.heap.size+1+1+1,4,none⟩ v.tr).setCell ⟨w.heap.size+1+1+1,5,none⟩ v.ro) (w.heap.size+1+1+1) 67 #[.int .i64 v.code,.int .i64 v.asm.al,.slice b h k1,.slice f i g,.string v.tr,.int .i64 v.ro]:=by
  simpa using (((((a.ab 0 (.int .i64 v.code)).ab 1 (.int .i64 v.asm.al)).ab 2 (.slice b h k1)).ab 3 (.slice f i g)).ab 4 (.string v.tr)).ab 5 (.int .i64 v.ro)
 have o:=(l.ar a y dM).less hx0.size;have r:=(hx0.trans (hx1.trans hx2)).frm y (fun k hk e=>oM);have q:=za (show zhn w v (.returned (.agg #[v.code,v.asm.al,.slice b h k1,.slice f i g,v.tr,v.ro])) _ from ⟨b,h,k1,f,i,g,rfl,o,r⟩);have cf:=za j;clear a l ho o r y j;go_wp2_with fail
 have cf:=cf.out.cell;exact bodyPost_ret (v:=.agg #[v.code,v.asm.al,.slice b h k1,.slice f i g,v.tr,v.ro]) (by simp [results,Tryz.results44,go_sem,cf]) rfl q.out
theorem zis (hs:zP w lo hi A n s)(hp:zJ w lo1 hi1 B m B' m' p)(ht:zP w lo2 hi2 C k t)(hif:iface s p t=(L:Int))(hn:n<=1000000)(hhi:hi<=w.heap.size) :
  Calls Tryz.prog 44 #[.agg #[s.al,s.st,.slice A n c],.agg #[t.al,t.st,.slice C k c2],.agg #[p.al,.slice B m d,.slice B' m' d']] w
   (zhn w (runT s t p L 12 0 ((zav L (zx s p L) [⟨#[]⟩] 11 [⟨#[]⟩]).map fun r=>(r,[⟨#[]⟩])))):=
 zdP (za (fun W (hW:Ext w W)=>spec_l12Run (K:=12) (hs.ext hW) (hp.ext hW) (ht.ext hW) hif hn (dJ hhi hW.size) oM))
end
theorem runT_size {s:Sys}  (hL:L<64)(hst:zB [s,t]=true)(hp:zj p=true) (f:Nat):∀ (k:Nat) (o:Option (List ByteArray × List ByteArray)),zeN L (zx s p L) o->(runT s t p L f k o).asm.size<=1048576∧(runT s t p L f k o).tr.size<=4000:=by
 induction f with
 |zero=>exact fun k o _=>⟨by show noA.size<=_;decide,dF _⟩
 |succ f ih =>
  intro k o ho
  match o with
  |none=>exact⟨by show noA.size<=_;decide,dF _⟩
  |some (rs,cs) =>
   obtain⟨b,a⟩:=ho rs cs rfl;rw [runT];split
   ·exact⟨zdg (zcE b a hL),dF _⟩
   ·split
    ·refine⟨by show noA.size<=_;decide,?_⟩;have h:=(zdp hst hp).2;have c:16 ^ [s,t].length*12=3072:=sM;show (zau [s,t] p).size<=4000;omega
    ·exact ih _ _ (zeN.aw b _)
theorem tot_cons (l:List Int) (r:List (List Int)):tot (l :: r)=l.length+tot r:=by simp [tot]
theorem zH.ab {rows:List Value} {ls:List (List Int)}   {l:List Int}(h:zH w base rows ls)(hr:rows[j]?=some (.slice A l.length c))
  (hf:Frm (blk A) w w') (zku:w'.ownsRow base 3 1 (.slice A l.length c) l.length (ints l)):zH w' base rows (ls.set j l):=by
 have d:j<rows.length:=(List.getElem?_eq_some_iff.1 hr).1;refine⟨by simp [h.1],fun i row m hi hm=>?_,h.2.2⟩
 by_cases hij:i=j
 ·subst hij;rw [hr] at hi;obtain rfl:=Option.some.inj hi;rw [List.getElem?_set_self (by rw [← h.1];exact d)] at hm;obtain rfl:=Option.some.inj hm;exact zku
 ·rw [List.getElem?_set_ne (fun e=>hij e.symm)] at hm;refine zg (h.2.1 i row m hi hm) hf (fun b hb hS=>?_);obtain⟨a,rfl,rfl⟩:=hS;exact h.2.2 i j row _ a.block hi hr hij hb rfl
theorem zab (W:World) (Z:Nat) (u0 u1 u2 u3 u4:Value):Frm (fun k=>k=Z) W (((((W.setCell Z u0).setCell ⟨Z,1,none⟩ u1).setCell ⟨Z,2,none⟩ u2).setCell ⟨Z,3,none⟩ u3).setCell ⟨Z,4,none⟩ u4):=
 ((((dE W Z 0 u0).trans (dE _ Z 1 u1)).trans (dE _ Z 2 u2)).trans (dE _ Z 3 u3)).trans (dE _ Z 4 u4)
theorem zaa {t:TypeId}(h:Blk w Z t cs)(hc:cs.size=5) (u0 u1 u2 u3 u4:Value):Blk (((((w.setCell Z u0).setCell ⟨Z,1,none⟩ u1).setCell ⟨Z,2,none⟩ u2).setCell ⟨Z,3,none⟩ u3).setCell ⟨Z,4,none⟩ u4) Z t #[u0,u1,u2,u3,u4]:=by
 obtain⟨l⟩:=cs
 match l,hc with
 |[a,b,c,d,e],_=>simpa using ((((h.ab 0 u0).ab 1 u1).ab 2 u2).ab 3 u3).ab 4 u4
def zbs (w:World) (hd:Bool) (a:Aut) (s:ByteArray) (b:Bool) (e:Ending) (w':World):Prop:=
 ∃ A n c A' n' c',e=.returned (.tuple #[.agg #[.bool hd,a.al,.slice A n c,.slice A' n' c',s],.bool b])∧zac w' w.heap.size A n c A' n' c' a∧Ext w w'
def aut0:Aut:=⟨0,[],[]⟩
theorem zgv (w:World) (base:Nat):zac w base none 0 0 none 0 0 aut0:=⟨⟨[],World.ownsRow_nil _ _ _ _,zH.nil _ _⟩,rfl,World.ownsRow_nil _ _ _ _,rfl⟩
def okC (cd:Int) (a:Aut) (s:ByteArray):Bool:=(decide (cd=0) || decide (cd=1))&&zE (decide (cd=0)) a s
theorem okC0 (a:Aut) (s:ByteArray):okC 0 a s=zE true a s:=by simp [okC]
theorem okC1 (a:Aut) (s:ByteArray):okC 1 a s=zE false a s:=by simp [okC]
def ziH (w W:World) (G:Nat) (hd:Bool) (a:Aut) (s:ByteArray) (B:Option Addr) (m d:Nat) (B':Option Addr) (m' d':Nat):Prop:=
 Blk W G 33 #[.bool hd,a.al,.slice B m d,.slice B' m' d',s]∧zac W w.heap.size B m d B' m' d' a∧Ext w W∧w.heap.size<=G
theorem zac.av (h:zac w base A n c A' n' c' a)(hB:Blk w G 33 cs)(hf:Frm (fun k=>k=G) w w'):zac w' base A n c A' n' c' a:=by
 obtain⟨⟨d,f,g⟩,m,j,o⟩:=h;exact⟨⟨d,zg f hf (fun b hb e=>zr f hB dM hb e),g.frm hf (fun i row b hr hb e=>by
  obtain⟨l,_,ho⟩:=g.row hr;exact zr ho hB dM hb e)⟩,m,zg j hf (fun b hb e=>zr j hB dM hb e),o⟩
theorem yE13b2 {P:Prop}(h:P:=by
 rintro e w4 ⟨B,m,d,B',m',d',rfl,own4,hx4⟩;replace own4:=own4.less hx0.size;replace hx0:=hx0.trans hx4;refine hK.out _ _ hx0 ?_;refine pT ?_;refine uQ ?_;refine ze fun K hK=>?_;go_simp;have hx1:=(Ext.refl w4).alloc (.cells #[.bool false,(0:Int),(),(),.string ⟨#[]⟩] 33);have hG:=hx0.size;replace own4:=own4.ext hx1;replace hx0:=hx0.trans hx1;refine hK.out _ _ hx0 ?_;generalize U0:w4.alloc _=wg at *;have hb:=Ext.bl_ U0;clear U0;generalize w4.heap.size=G at *;refine pT ?_;refine uQ ?_;have cG:=hb.cell;have fG:=hb.frozen;refine zb fun K hK=>?_;go_simp;refine hK.out _ _ ?_;refine zf ?_;have hfl:=zab wg G (.bool true) (.int .i64 a.al) (.slice B m d) (.slice B' m' d') (.string s);have zkx:ziH w2 (((((wg.setCell G (.bool true)).setCell ⟨G,1,none⟩ a.al).setCell ⟨G,2,none⟩ (.slice B m d)).setCell ⟨G,3,none⟩ (.slice B' m' d')).setCell ⟨G,4,none⟩ s) G true a s B m d B' m' d':=⟨zaa hb rfl _ _ _ _ _,own4.av hb hfl,hx0.frm hfl (fun k hk e=>oM),hG⟩;go_wp2_with fail
 go_meet;exact⟨G,_,_,_,_,_,_,rfl,zkx⟩
 ):P:=h
theorem yE13b4 {P:Prop}(h:P:=by
 rintro e w4 ⟨B,m,d,B',m',d',rfl,own4,hx4⟩;replace own4:=own4.less hx0.size;replace hb:=hb.ext hx4;replace hx0:=hx0.trans hx4;refine hK.out _ _ hx0 ?_;refine pT ?_;refine uQ ?_;have cG:=hb.cell;have fG:=hb.frozen;refine zb fun K hK=>?_;go_simp;refine hK.out _ _ ?_;refine zf ?_;have hfl:=zab w4 G (.bool true) (.int .i64 a.al) (.slice B m d) (.slice B' m' d') (.string s);have zkx:ziH w2 (((((w4.setCell G (.bool true)).setCell ⟨G,1,none⟩ a.al).setCell ⟨G,2,none⟩ (.slice B m d)).setCell ⟨G,3,none⟩ (.slice B' m' d')).setCell ⟨G,4,none⟩ s) G true a s B m d B' m' d':=⟨zaa hb rfl _ _ _ _ _,own4.av hb hfl,hx0.frm hfl (fun k hk e=>oM),hG⟩;go_wp2_with fail
 go_meet;exact⟨G,_,_,_,_,_,_,rfl,zkx⟩
 ):P:=h
theorem zfm (h:zJ w lo hi A n A' n' a)(hs:a.size<=1048576)(hs9:s.size<=9223372036854775807)(hv:zE true a s=true) :
  Calls Tryz.prog 47 #[.agg #[(0:Int),a.al,.slice A n c,.slice A' n' c',s,ro]] w (zbs w true a s true):=by
 have Hv:=za hv;clear hv;have HS:=za (fun W (hW:Ext w W)=>h.ext hW);have g:=hs;clear h
 go_enter Tryz.func47,Tryz.ntmps47
 go_upto_region 3 with fail
 generalize U0:(w.alloc _).alloc _=w2 at *;obtain⟨hw2,b1,bz⟩:=gI U0;have f:w.heap.size+2=w2.heap.size:=by rw [← U0];simp
 have k1:=b1.cell;clear U0;clear k1
 go_cut [4] (fun v wx=>∃ G B m d B' m' d',v=.pointer (some ⟨G,0,none⟩)∧ziH w2 wx G true a s B m d B' m' d')
 case first =>
  have c1:=fun W (hW:Ext w2 W)=>(b1.ext hW).cell;have hww:=cY w2;refine uR (fun X=>Ext w2 X) [10] (zv.app [0,1,2,3,4,6,7] (zv.two 5 (zv.of [8,9,10]) 9 (zv.of [5,8,10]))) ?_;refine uQ ?_;have hx0:Ext w2 w2.drew:=hww.drew;generalize w2.drew=wd at *;refine zn (fun K hK=>?_) (fun K hK=>?_)
  ·go_simp;refine (zba (HS.out _ (hw2.trans hx0)) hs).mono ?_;exact yE13b2
  ·go_simp;have hx1:=(cY wd).alloc (.cells #[.bool false,(0:Int),(),(),.string ⟨#[]⟩] 33);have hG:=hx0.size;replace hx0:=hx0.trans hx1;refine hK.out _ _ hx0 ?_;generalize U0:wd.alloc _=wg at *;have hb:=dU U0;clear U0;generalize wd.heap.size=G at *;refine pT ?_;refine uQ ?_;refine ze fun K hK=>?_;go_simp;refine (zba (HS.out _ (hw2.trans hx0)) hs).mono ?_;exact yE13b4
 case rest =>
  obtain⟨G,B,m,d,B',m',d',rfl,hb,own4,hx2,hG⟩:=hcut;have kG:=hb.cell;have k1:=(b1.ext hx2).cell;go_wp2_with fail
  refine (zby _ _ _ _ _ _ _ _ _ _ _ _ own4.reads hs9).mono ?_;rw [Hv.out];rintro e w5 ⟨rfl,hx5⟩;clear kG k1;replace hb:=hb.ext hx5;replace own4:=own4.ext hx5;replace hx2:=hx2.trans hx5;have kG:=hb.cell;have k1:=(b1.ext hx2).cell;have hbz:=bz.ext hx2;have cZ:=hbz.cell;have fZ:=hbz.frozen;have hfl:=zab w5 (w.heap.size+1) (.bool true) (.int .i64 a.al) (.slice B m d) (.slice B' m' d') (.string s);have hbf:=zaa hbz rfl (.bool true) (.int .i64 a.al) (.slice B m d) (.slice B' m' d') (.string s);have hxf:=(hw2.trans hx2).frm hfl (fun k hk e=>oM);have zkx:=za (show zbs w true a s true (.returned (.tuple #[.agg #[.bool true,a.al,.slice B m d,.slice B' m' d',s],.bool true])) (((((w5.setCell ⟨w.heap.size+1,0,none⟩ (.bool true)).setCell ⟨w.heap.size+1,1,none⟩ a.al).setCell ⟨w.heap.size+1,2,none⟩ (.slice B m d)).setCell ⟨w.heap.size+1,3,none⟩ (.slice B' m' d')).setCell ⟨w.heap.size+1,4,none⟩ s) from ⟨B,m,d,B',m',d',rfl,(own4.keep hfl (fun b h1 e=>oM)).less oM,hxf⟩);go_wp2_with fail
  generalize (((((w5.setCell ⟨w.heap.size+1,0,none⟩ (.bool true)).setCell ⟨w.heap.size+1,1,none⟩ a.al).setCell ⟨w.heap.size+1,2,none⟩ (.slice B m d)).setCell ⟨w.heap.size+1,3,none⟩ (.slice B' m' d')).setCell ⟨w.heap.size+1,4,none⟩ s)=wf at *;have cf:=hbf.cell;exact bodyPost_ret (v:=.tuple #[.agg #[.bool true,a.al,.slice B m d,.slice B' m' d',s],.bool true]) (by simp [results,Tryz.results47,go_sem,cf]) rfl zkx.out
theorem yE13a2 {P:Prop}(h:P:=by
 have c1:=fun W (hW:Ext w2 W)=>(b1.ext hW).cell;have hww:=Ext.refl w2;refine uR (fun X=>Ext w2 X) [10] (zv.app [0,1,2,3,4,6,7] (zv.two 5 (zv.of [8,9,10]) 9 (zv.of [5,8,10]))) ?_;refine uQ ?_;have hx0:Ext w2 w2.drew:=hww.drew;generalize w2.drew=wd at *;refine zn (fun K hK=>?_) (fun K hK=>?_)
 ·go_simp;refine (zay (HS.out _ (hw2.trans hx0)) hs).mono ?_;exact yE13b2
 ·go_simp;have hx1:=(Ext.refl wd).alloc (.cells #[.bool false,(0:Int),(),(),.string ⟨#[]⟩] 33);have hG:=hx0.size;replace hx0:=hx0.trans hx1;refine hK.out _ _ hx0 ?_;generalize U0:wd.alloc _=wg at *;have hb:=Ext.bl_ U0;clear U0;generalize wd.heap.size=G at *;refine pT ?_;refine uQ ?_;refine ze fun K hK=>?_;go_simp;refine (zay (HS.out _ (hw2.trans hx0)) hs).mono ?_;exact yE13b4
 ):P:=h
theorem zdd (h:zJ w lo hi A n A' n' a)(hs:a.size<=1048576)(hs9:s.size<=9223372036854775807)(hv:zE true a s=true) :
  Calls Tryz.prog 58 #[.agg #[(0:Int),a.al,.slice A n c,.slice A' n' c',s,ro]] w (zbs w true a s true):=by
 have Hv:=za hv;clear hv;have HS:=za (fun W (hW:Ext w W)=>h.ext hW);have g:=hs;clear h
 go_enter Tryz.func58,Tryz.ntmps58
 go_upto_region 1 with fail
 generalize U0:(w.alloc _).alloc _=w2 at *;obtain⟨hw2,b1,bz⟩:=gI U0;have f:w.heap.size+2=w2.heap.size:=by rw [← U0];simp
 clear U0
 go_cut [4] (fun v wx=>∃ G B m d B' m' d',v=.pointer (some ⟨G,0,none⟩)∧ziH w2 wx G true a s B m d B' m' d')
 case first =>
  exact yE13a2
 case rest =>
  obtain⟨G,B,m,d,B',m',d',rfl,hb,own4,hx2,hG⟩:=hcut;have kG:=hb.cell;have k1:=(b1.ext hx2).cell;go_wp2_with fail
  refine (zaK _ _ _ _ _ _ _ _ _ _ _ _ own4.reads hs9).mono ?_;rw [Hv.out];rintro e w5 ⟨rfl,hx5⟩;clear kG k1;replace hb:=hb.ext hx5;replace own4:=own4.ext hx5;replace hx2:=hx2.trans hx5;have kG:=hb.cell;have k1:=(b1.ext hx2).cell;have hbz:=bz.ext hx2;have cZ:=hbz.cell;have fZ:=hbz.frozen;have hfl:=zab w5 (w.heap.size+1) (.bool true) (.int .i64 a.al) (.slice B m d) (.slice B' m' d') (.string s);have hbf:=zaa hbz rfl (.bool true) (.int .i64 a.al) (.slice B m d) (.slice B' m' d') (.string s);have hxf:=(hw2.trans hx2).frm hfl (fun k hk e=>oM);have zkx:=za (show zbs w true a s true (.returned (.tuple #[.agg #[.bool true,a.al,.slice B m d,.slice B' m' d',s],.bool true])) (((((w5.setCell ⟨w.heap.size+1,0,none⟩ (.bool true)).setCell ⟨w.heap.size+1,1,none⟩ a.al).setCell ⟨w.heap.size+1,2,none⟩ (.slice B m d)).setCell ⟨w.heap.size+1,3,none⟩ (.slice B' m' d')).setCell ⟨w.heap.size+1,4,none⟩ s) from ⟨B,m,d,B',m',d',rfl,(own4.keep hfl (fun b h1 e=>oM)).less oM,hxf⟩);go_wp2_with fail
  generalize (((((w5.setCell ⟨w.heap.size+1,0,none⟩ (.bool true)).setCell ⟨w.heap.size+1,1,none⟩ a.al).setCell ⟨w.heap.size+1,2,none⟩ (.slice B m d)).setCell ⟨w.heap.size+1,3,none⟩ (.slice B' m' d')).setCell ⟨w.heap.size+1,4,none⟩ s)=wf at *;have cf:=hbf.cell;exact bodyPost_ret (v:=.tuple #[.agg #[.bool true,a.al,.slice B m d,.slice B' m' d',s],.bool true]) (by simp [results,Tryz.results58,go_sem,cf]) rfl zkx.out
theorem yE13b5 {P:Prop}(h:P:=by
 have cf:=hbf.cell;exact bodyPost_ret (v:=.tuple #[.agg #[.bool false,(0:Int),(),(),.string ⟨#[]⟩],.bool false]) (by simp [results,Tryz.results58,go_sem,cf]) rfl zkx.out
 ):P:=h
theorem yE13a3 {P:Prop}(h:P:=by
 obtain⟨G,B,m,d,B',m',d',rfl,hb,own4,hx2,hG⟩:=hcut;have kG:=hb.cell;have k1:=(b1.ext hx2).cell;go_wp2_with fail
 refine (zaK _ _ _ _ _ _ _ _ _ _ _ _ own4.reads hs9).mono ?_;rw [Hv.out];rintro e w5 ⟨rfl,hx5⟩;clear kG k1;replace hb:=hb.ext hx5;replace own4:=own4.ext hx5;replace hx2:=hx2.trans hx5;have kG:=hb.cell;have k1:=(b1.ext hx2).cell;have hbz:=bz.ext hx2;have cZ:=hbz.cell;have fZ:=hbz.frozen;have hfl:=zab w5 (w.heap.size+1) (.bool false) (.int .i64 0) (.slice none 0 0) (.slice none 0 0) (.string ⟨#[]⟩);have hbf:=zaa hbz rfl (.bool false) (.int .i64 0) (.slice none 0 0) (.slice none 0 0) (.string ⟨#[]⟩);have hxf:=(hw2.trans hx2).frm hfl (fun k hk e=>oM);have zkx:=za (show zbs w false aut0 ⟨#[]⟩ false (.returned (.tuple #[.agg #[.bool false,(0:Int),(),(),.string ⟨#[]⟩],.bool false])) (((((w5.setCell ⟨w.heap.size+1,0,none⟩ (.bool false)).setCell ⟨w.heap.size+1,1,none⟩ (0:Int)).setCell ⟨w.heap.size+1,2,none⟩ ()).setCell ⟨w.heap.size+1,3,none⟩ ()).setCell ⟨w.heap.size+1,4,none⟩ (.string ⟨#[]⟩)) from ⟨none,0,0,none,0,0,rfl,zgv _ _,hxf⟩);go_wp2_with fail
 generalize (((((w5.setCell ⟨w.heap.size+1,0,none⟩ (.bool false)).setCell ⟨w.heap.size+1,1,none⟩ (0:Int)).setCell ⟨w.heap.size+1,2,none⟩ ()).setCell ⟨w.heap.size+1,3,none⟩ ()).setCell ⟨w.heap.size+1,4,none⟩ (.string ⟨#[]⟩))=wf at *;exact yE13b5
 ):P:=h
theorem zfs (h:zJ w lo hi A n A' n' a)(hs:a.size<=1048576)(hs9:s.size<=9223372036854775807)(hv:zE true a s=false) :
  Calls Tryz.prog 58 #[.agg #[(0:Int),a.al,.slice A n c,.slice A' n' c',s,ro]] w (zbs w false aut0 ⟨#[]⟩ false):=by
 have Hv:=za hv;clear hv;have HS:=za (fun W (hW:Ext w W)=>h.ext hW);have f:=hs;clear h
 go_enter Tryz.func58,Tryz.ntmps58
 go_upto_region 1 with fail
 generalize U0:(w.alloc _).alloc _=w2 at *;obtain⟨hw2,b1,bz⟩:=gI U0;have b:w.heap.size+2=w2.heap.size:=by rw [← U0];simp
 clear U0
 go_cut [4] (fun v wx=>∃ G B m d B' m' d',v=.pointer (some ⟨G,0,none⟩)∧ziH w2 wx G true a s B m d B' m' d')
 case first =>
  exact yE13a2
 case rest =>
  exact yE13a3
theorem yE13b1 {P:Prop}(h:P:=by
 rintro e w4 ⟨B,m,d,B',m',d',rfl,own4,hx4⟩;replace own4:=own4.less hx0.size;replace hx0:=hx0.trans hx4;refine hK.out _ _ hx0 ?_;refine pT ?_;refine uQ ?_;refine ze fun K hK=>?_;go_simp;have hx1:=(Ext.refl w4).alloc (.cells #[.bool false,(0:Int),(),(),.string ⟨#[]⟩] 33);have hG:=hx0.size;replace own4:=own4.ext hx1;replace hx0:=hx0.trans hx1;refine hK.out _ _ hx0 ?_;generalize U0:w4.alloc _=wg at *;have hb:=Ext.bl_ U0;clear U0;generalize w4.heap.size=G at *;refine pT ?_;refine uQ ?_;have cG:=hb.cell;have fG:=hb.frozen;refine zb fun K hK=>?_;go_simp;refine hK.out _ _ ?_;refine zf ?_;have hfl:=zab wg G (.bool false) (.int .i64 a.al) (.slice B m d) (.slice B' m' d') (.string s);have zkx:ziH w2 (((((wg.setCell G (.bool false)).setCell ⟨G,1,none⟩ a.al).setCell ⟨G,2,none⟩ (.slice B m d)).setCell ⟨G,3,none⟩ (.slice B' m' d')).setCell ⟨G,4,none⟩ s) G false a s B m d B' m' d':=⟨zaa hb rfl _ _ _ _ _,own4.av hb hfl,hx0.frm hfl (fun k hk e=>oM),hG⟩;go_wp2_with fail
 go_meet;exact⟨G,_,_,_,_,_,_,rfl,zkx⟩
 ):P:=h
theorem yE13b3 {P:Prop}(h:P:=by
 rintro e w4 ⟨B,m,d,B',m',d',rfl,own4,hx4⟩;replace own4:=own4.less hx0.size;replace hb:=hb.ext hx4;replace hx0:=hx0.trans hx4;refine hK.out _ _ hx0 ?_;refine pT ?_;refine uQ ?_;have cG:=hb.cell;have fG:=hb.frozen;refine zb fun K hK=>?_;go_simp;refine hK.out _ _ ?_;refine zf ?_;have hfl:=zab w4 G (.bool false) (.int .i64 a.al) (.slice B m d) (.slice B' m' d') (.string s);have zkx:ziH w2 (((((w4.setCell G (.bool false)).setCell ⟨G,1,none⟩ a.al).setCell ⟨G,2,none⟩ (.slice B m d)).setCell ⟨G,3,none⟩ (.slice B' m' d')).setCell ⟨G,4,none⟩ s) G false a s B m d B' m' d':=⟨zaa hb rfl _ _ _ _ _,own4.av hb hfl,hx0.frm hfl (fun k hk e=>oM),hG⟩;go_wp2_with fail
 go_meet;exact⟨G,_,_,_,_,_,_,rfl,zkx⟩
 ):P:=h
theorem zfn (h:zJ w lo hi A n A' n' a)(hs:a.size<=1048576)(hs9:s.size<=9223372036854775807)(hv:zE false a s=true) :
  Calls Tryz.prog 47 #[.agg #[(1:Int),a.al,.slice A n c,.slice A' n' c',s,ro]] w (zbs w false a s true):=by
 have Hv:=za hv;clear hv;have HS:=za (fun W (hW:Ext w W)=>h.ext hW);have g:=hs;clear h
 go_enter Tryz.func47,Tryz.ntmps47
 go_upto_region 3 with fail
 generalize U0:(w.alloc _).alloc _=w2 at *;obtain⟨hw2,b1,bz⟩:=gI U0;have f:w.heap.size+2=w2.heap.size:=by rw [← U0];simp
 have k1:=b1.cell;clear U0;clear k1
 go_cut [4] (fun v wx=>∃ G B m d B' m' d',v=.pointer (some ⟨G,0,none⟩)∧ziH w2 wx G false a s B m d B' m' d')
 case first =>
  have c1:=fun W (hW:Ext w2 W)=>(b1.ext hW).cell;have hww:=cY w2;refine uR (fun X=>Ext w2 X) [10] (zv.app [0,1,2,3,4,6,7] (zv.two 5 (zv.of [8,9,10]) 9 (zv.of [5,8,10]))) ?_;refine uQ ?_;have hx0:Ext w2 w2.drew:=hww.drew;generalize w2.drew=wd at *;refine zn (fun K hK=>?_) (fun K hK=>?_)
  ·go_simp;refine (zba (HS.out _ (hw2.trans hx0)) hs).mono ?_;exact yE13b1
  ·go_simp;have hx1:=(cY wd).alloc (.cells #[.bool false,(0:Int),(),(),.string ⟨#[]⟩] 33);have hG:=hx0.size;replace hx0:=hx0.trans hx1;refine hK.out _ _ hx0 ?_;generalize U0:wd.alloc _=wg at *;have hb:=dU U0;clear U0;generalize wd.heap.size=G at *;refine pT ?_;refine uQ ?_;refine ze fun K hK=>?_;go_simp;refine (zba (HS.out _ (hw2.trans hx0)) hs).mono ?_;exact yE13b3
 case rest =>
  obtain⟨G,B,m,d,B',m',d',rfl,hb,own4,hx2,hG⟩:=hcut;have kG:=hb.cell;have k1:=(b1.ext hx2).cell;go_wp2_with fail
  refine (zby _ _ _ _ _ _ _ _ _ _ _ _ own4.reads hs9).mono ?_;rw [Hv.out];rintro e w5 ⟨rfl,hx5⟩;clear kG k1;replace hb:=hb.ext hx5;replace own4:=own4.ext hx5;replace hx2:=hx2.trans hx5;have kG:=hb.cell;have k1:=(b1.ext hx2).cell;have hbz:=bz.ext hx2;have cZ:=hbz.cell;have fZ:=hbz.frozen;have hfl:=zab w5 (w.heap.size+1) (.bool false) (.int .i64 a.al) (.slice B m d) (.slice B' m' d') (.string s);have hbf:=zaa hbz rfl (.bool false) (.int .i64 a.al) (.slice B m d) (.slice B' m' d') (.string s);have hxf:=(hw2.trans hx2).frm hfl (fun k hk e=>oM);have zkx:=za (show zbs w false a s true (.returned (.tuple #[.agg #[.bool false,a.al,.slice B m d,.slice B' m' d',s],.bool true])) (((((w5.setCell ⟨w.heap.size+1,0,none⟩ (.bool false)).setCell ⟨w.heap.size+1,1,none⟩ a.al).setCell ⟨w.heap.size+1,2,none⟩ (.slice B m d)).setCell ⟨w.heap.size+1,3,none⟩ (.slice B' m' d')).setCell ⟨w.heap.size+1,4,none⟩ s) from ⟨B,m,d,B',m',d',rfl,(own4.keep hfl (fun b h1 e=>oM)).less oM,hxf⟩);go_wp2_with fail
  generalize (((((w5.setCell ⟨w.heap.size+1,0,none⟩ (.bool false)).setCell ⟨w.heap.size+1,1,none⟩ a.al).setCell ⟨w.heap.size+1,2,none⟩ (.slice B m d)).setCell ⟨w.heap.size+1,3,none⟩ (.slice B' m' d')).setCell ⟨w.heap.size+1,4,none⟩ s)=wf at *;have cf:=hbf.cell;exact bodyPost_ret (v:=.tuple #[.agg #[.bool false,a.al,.slice B m d,.slice B' m' d',s],.bool true]) (by simp [results,Tryz.results47,go_sem,cf]) rfl zkx.out
theorem yE13a1 {P:Prop}(h:P:=by
 have c1:=fun W (hW:Ext w2 W)=>(b1.ext hW).cell;have hww:=Ext.refl w2;refine uR (fun X=>Ext w2 X) [10] (zv.app [0,1,2,3,4,6,7] (zv.two 5 (zv.of [8,9,10]) 9 (zv.of [5,8,10]))) ?_;refine uQ ?_;have hx0:Ext w2 w2.drew:=hww.drew;generalize w2.drew=wd at *;refine zn (fun K hK=>?_) (fun K hK=>?_)
 ·go_simp;refine (zay (HS.out _ (hw2.trans hx0)) hs).mono ?_;exact yE13b1
 ·go_simp;have hx1:=(Ext.refl wd).alloc (.cells #[.bool false,(0:Int),(),(),.string ⟨#[]⟩] 33);have hG:=hx0.size;replace hx0:=hx0.trans hx1;refine hK.out _ _ hx0 ?_;generalize U0:wd.alloc _=wg at *;have hb:=Ext.bl_ U0;clear U0;generalize wd.heap.size=G at *;refine pT ?_;refine uQ ?_;refine ze fun K hK=>?_;go_simp;refine (zay (HS.out _ (hw2.trans hx0)) hs).mono ?_;exact yE13b3
 ):P:=h
theorem zde (h:zJ w lo hi A n A' n' a)(hs:a.size<=1048576)(hs9:s.size<=9223372036854775807)(hv:zE false a s=true) :
  Calls Tryz.prog 58 #[.agg #[(1:Int),a.al,.slice A n c,.slice A' n' c',s,ro]] w (zbs w false a s true):=by
 have Hv:=za hv;clear hv;have HS:=za (fun W (hW:Ext w W)=>h.ext hW);have g:=hs;clear h
 go_enter Tryz.func58,Tryz.ntmps58
 go_upto_region 1 with fail
 generalize U0:(w.alloc _).alloc _=w2 at *;obtain⟨hw2,b1,bz⟩:=gI U0;have f:w.heap.size+2=w2.heap.size:=by rw [← U0];simp
 clear U0
 go_cut [4] (fun v wx=>∃ G B m d B' m' d',v=.pointer (some ⟨G,0,none⟩)∧ziH w2 wx G false a s B m d B' m' d')
 case first =>
  exact yE13a1
 case rest =>
  obtain⟨G,B,m,d,B',m',d',rfl,hb,own4,hx2,hG⟩:=hcut;have kG:=hb.cell;have k1:=(b1.ext hx2).cell;go_wp2_with fail
  refine (zaK _ _ _ _ _ _ _ _ _ _ _ _ own4.reads hs9).mono ?_;rw [Hv.out];rintro e w5 ⟨rfl,hx5⟩;clear kG k1;replace hb:=hb.ext hx5;replace own4:=own4.ext hx5;replace hx2:=hx2.trans hx5;have kG:=hb.cell;have k1:=(b1.ext hx2).cell;have hbz:=bz.ext hx2;have cZ:=hbz.cell;have fZ:=hbz.frozen;have hfl:=zab w5 (w.heap.size+1) (.bool false) (.int .i64 a.al) (.slice B m d) (.slice B' m' d') (.string s);have hbf:=zaa hbz rfl (.bool false) (.int .i64 a.al) (.slice B m d) (.slice B' m' d') (.string s);have hxf:=(hw2.trans hx2).frm hfl (fun k hk e=>oM);have zkx:=za (show zbs w false a s true (.returned (.tuple #[.agg #[.bool false,a.al,.slice B m d,.slice B' m' d',s],.bool true])) (((((w5.setCell ⟨w.heap.size+1,0,none⟩ (.bool false)).setCell ⟨w.heap.size+1,1,none⟩ a.al).setCell ⟨w.heap.size+1,2,none⟩ (.slice B m d)).setCell ⟨w.heap.size+1,3,none⟩ (.slice B' m' d')).setCell ⟨w.heap.size+1,4,none⟩ s) from ⟨B,m,d,B',m',d',rfl,(own4.keep hfl (fun b h1 e=>oM)).less oM,hxf⟩);go_wp2_with fail
  generalize (((((w5.setCell ⟨w.heap.size+1,0,none⟩ (.bool false)).setCell ⟨w.heap.size+1,1,none⟩ a.al).setCell ⟨w.heap.size+1,2,none⟩ (.slice B m d)).setCell ⟨w.heap.size+1,3,none⟩ (.slice B' m' d')).setCell ⟨w.heap.size+1,4,none⟩ s)=wf at *;have cf:=hbf.cell;exact bodyPost_ret (v:=.tuple #[.agg #[.bool false,a.al,.slice B m d,.slice B' m' d',s],.bool true]) (by simp [results,Tryz.results58,go_sem,cf]) rfl zkx.out
theorem zft (h:zJ w lo hi A n A' n' a)(hs:a.size<=1048576)(hs9:s.size<=9223372036854775807)(hv:zE false a s=false) :
  Calls Tryz.prog 58 #[.agg #[(1:Int),a.al,.slice A n c,.slice A' n' c',s,ro]] w (zbs w false aut0 ⟨#[]⟩ false):=by
 have Hv:=za hv;clear hv;have HS:=za (fun W (hW:Ext w W)=>h.ext hW);have f:=hs;clear h
 go_enter Tryz.func58,Tryz.ntmps58
 go_upto_region 1 with fail
 generalize U0:(w.alloc _).alloc _=w2 at *;obtain⟨hw2,b1,bz⟩:=gI U0;have b:w.heap.size+2=w2.heap.size:=by rw [← U0];simp
 clear U0
 go_cut [4] (fun v wx=>∃ G B m d B' m' d',v=.pointer (some ⟨G,0,none⟩)∧ziH w2 wx G false a s B m d B' m' d')
 case first =>
  exact yE13a1
 case rest =>
  exact yE13a3
theorem zfM (h:zJ w lo hi A n A' n' a)(hs:a.size<=1048576)(h0:cd≠0)(h1:cd≠1) :
  Calls Tryz.prog 47 #[.agg #[cd,a.al,.slice A n c,.slice A' n' c',s,ro]] w (zbs w false aut0 ⟨#[]⟩ false):=by
 have d:(cd==0)=false:=by simpa using h0
 have f:(cd != 0)=true:=by simpa using h0
 have g:(cd != 1)=true:=by simpa using h1
 clear h0 h1;have HS:=za (fun W (hW:Ext w W)=>h.ext hW);have i:=hs;clear h
 go_enter Tryz.func47,Tryz.ntmps47
 go_upto_region 1 with fail
 generalize U0:(w.alloc _).alloc _=w2 at *;obtain⟨hw2,b1,bz⟩:=gI U0;have b:w.heap.size+2=w2.heap.size:=by rw [← U0];simp
 clear U0;have k1:=b1.cell;have hbz:=bz;have cZ:=hbz.cell;have fZ:=hbz.frozen;have hfl:=zab w2 (w.heap.size+1) (.bool false) (.int .i64 0) (.slice none 0 0) (.slice none 0 0) (.string ⟨#[]⟩);have hbf:=zaa hbz rfl (.bool false) (.int .i64 0) (.slice none 0 0) (.slice none 0 0) (.string ⟨#[]⟩);have hxf:=hw2.frm hfl (fun k hk e=>oM);have zkx:=za (show zbs w false aut0 ⟨#[]⟩ false (.returned (.tuple #[.agg #[.bool false,(0:Int),(),(),.string ⟨#[]⟩],.bool false])) (((((w2.setCell ⟨w.heap.size+1,0,none⟩ (.bool false)).setCell ⟨w.heap.size+1,1,none⟩ (0:Int)).setCell ⟨w.heap.size+1,2,none⟩ ()).setCell ⟨w.heap.size+1,3,none⟩ ()).setCell ⟨w.heap.size+1,4,none⟩ (.string ⟨#[]⟩)) from ⟨none,0,0,none,0,0,rfl,zgv _ _,hxf⟩);go_wp2_with fail
 generalize (((((w2.setCell ⟨w.heap.size+1,0,none⟩ (.bool false)).setCell ⟨w.heap.size+1,1,none⟩ (0:Int)).setCell ⟨w.heap.size+1,2,none⟩ ()).setCell ⟨w.heap.size+1,3,none⟩ ()).setCell ⟨w.heap.size+1,4,none⟩ (.string ⟨#[]⟩))=wf at *;have cf:=hbf.cell;exact bodyPost_ret (v:=.tuple #[.agg #[.bool false,(0:Int),(),(),.string ⟨#[]⟩],.bool false]) (by simp [results,Tryz.results47,go_sem,cf]) rfl zkx.out
theorem zdx (h:zJ w lo hi A n A' n' a)(hs:a.size<=1048576)(h0:cd≠0)(h1:cd≠1) :
  Calls Tryz.prog 58 #[.agg #[cd,a.al,.slice A n c,.slice A' n' c',s,ro]] w (zbs w false aut0 ⟨#[]⟩ false):=by
 have f:(cd==0)=false:=by simpa using h0
 have g:(cd != 0)=true:=by simpa using h0
 have i:(cd != 1)=true:=by simpa using h1
 clear h0 h1;have HS:=za (fun W (hW:Ext w W)=>h.ext hW);have j:=hs;clear h
 go_enter Tryz.func58,Tryz.ntmps58
 go_upto_region 1 with fail
 generalize U0:(w.alloc _).alloc _=w2 at *;obtain⟨hw2,b1,bz⟩:=gI U0;have b:w.heap.size+2=w2.heap.size:=by rw [← U0];simp
 clear U0
 go_cut [4] (fun v wx=>∃ G B m d B' m' d',v=.pointer (some ⟨G,0,none⟩)∧ziH w2 wx G false a s B m d B' m' d')
 case first =>
  exact yE13a1
 case rest =>
  obtain⟨G,B,m,d,B',m',d',rfl,hb,own4,hx2,hG⟩:=hcut;have k1:=(b1.ext hx2).cell;have hbz:=bz.ext hx2;have cZ:=hbz.cell;have fZ:=hbz.frozen;have hfl:=zab wc (w.heap.size+1) (.bool false) (.int .i64 0) (.slice none 0 0) (.slice none 0 0) (.string ⟨#[]⟩);have hbf:=zaa hbz rfl (.bool false) (.int .i64 0) (.slice none 0 0) (.slice none 0 0) (.string ⟨#[]⟩);have hxf:=(hw2.trans hx2).frm hfl (fun k hk e=>oM);have zkx:=za (show zbs w false aut0 ⟨#[]⟩ false (.returned (.tuple #[.agg #[.bool false,(0:Int),(),(),.string ⟨#[]⟩],.bool false])) (((((wc.setCell ⟨w.heap.size+1,0,none⟩ (.bool false)).setCell ⟨w.heap.size+1,1,none⟩ (0:Int)).setCell ⟨w.heap.size+1,2,none⟩ ()).setCell ⟨w.heap.size+1,3,none⟩ ()).setCell ⟨w.heap.size+1,4,none⟩ (.string ⟨#[]⟩)) from ⟨none,0,0,none,0,0,rfl,zgv _ _,hxf⟩);go_wp2_with fail
  generalize (((((wc.setCell ⟨w.heap.size+1,0,none⟩ (.bool false)).setCell ⟨w.heap.size+1,1,none⟩ (0:Int)).setCell ⟨w.heap.size+1,2,none⟩ ()).setCell ⟨w.heap.size+1,3,none⟩ ()).setCell ⟨w.heap.size+1,4,none⟩ (.string ⟨#[]⟩))=wf at *;exact yE13b5
def hdX (cd:Int) (a:Aut) (s:ByteArray):Bool:=okC cd a s&&decide (cd=0)
def zer (cd:Int) (a:Aut) (s:ByteArray):Aut:=if okC cd a s then a else aut0
def zeE (cd:Int) (a:Aut) (s:ByteArray):ByteArray:=if okC cd a s then s else ⟨#[]⟩
theorem zgA (h:zJ w lo hi A n A' n' a)(hs:a.size<=1048576)(hs9:s.size<=9223372036854775807) :
  Calls Tryz.prog 58 #[.agg #[cd,a.al,.slice A n c,.slice A' n' c',s,ro]] w (zbs w (hdX cd a s) (zer cd a s) (zeE cd a s) (okC cd a s)):=by
 by_cases h0:cd=0
 ·subst h0;cases hv:zE true a s
  ·have:=zfs h hs hs9 hv (c:=c) (c':=c') (ro:=ro);simpa [hdX,zer,zeE,okC0,hv] using this
  ·have:=zdd h hs hs9 hv (c:=c) (c':=c') (ro:=ro);simpa [hdX,zer,zeE,okC0,hv] using this
 ·by_cases h1:cd=1
  ·subst h1;cases hv:zE false a s
   ·have:=zft h hs hs9 hv (c:=c) (c':=c') (ro:=ro);simpa [hdX,zer,zeE,okC1,hv] using this
   ·have:=zde h hs hs9 hv (c:=c) (c':=c') (ro:=ro);simpa [hdX,zer,zeE,okC1,hv] using this
  ·have:=zdx h hs h0 h1 (s:=s) (c:=c) (c':=c') (ro:=ro);simpa [hdX,zer,zeE,okC,h0,h1] using this
theorem zfL (h:zJ w lo hi A n A' n' a)(hs:a.size<=1048576)(hs9:s.size<=9223372036854775807)(h0:cd=0->zE true a s=true)(h1:cd=1->zE false a s=true) :
  Calls Tryz.prog 47 #[.agg #[cd,a.al,.slice A n c,.slice A' n' c',s,ro]] w (zbs w (hdX cd a s) (zer cd a s) (zeE cd a s) (okC cd a s)):=by
 by_cases e0:cd=0
 ·subst e0;have:=zfm h hs hs9 (h0 rfl) (c:=c) (c':=c') (ro:=ro);simpa [hdX,zer,zeE,okC0,h0 rfl] using this
 ·by_cases e1:cd=1
  ·subst e1;have:=zfn h hs hs9 (h1 rfl) (c:=c) (c':=c') (ro:=ro);simpa [hdX,zer,zeE,okC1,h1 rfl] using this
  ·have:=zfM h hs e0 e1 (s:=s) (c:=c) (c':=c') (ro:=ro);simpa [hdX,zer,zeE,okC,e0,e1] using this
theorem zfS (h:zJ w lo hi A n A' n' a)(hs:a.size<=1048576)(hs9:s.size<=9223372036854775807)(h0:cd=0->zE true a s=true)(h1:cd=1->zE false a s=true) :
  Calls Tryz.prog 58 #[.agg #[cd,a.al,.slice A n c,.slice A' n' c',s,ro]] w (zbs w (hdX cd a s) (zer cd a s) (zeE cd a s) (okC cd a s)):=by
 by_cases e0:cd=0
 ·subst e0;have:=zdd h hs hs9 (h0 rfl) (c:=c) (c':=c') (ro:=ro);simpa [hdX,zer,zeE,okC0,h0 rfl] using this
 ·by_cases e1:cd=1
  ·subst e1;have:=zde h hs hs9 (h1 rfl) (c:=c) (c':=c') (ro:=ro);simpa [hdX,zer,zeE,okC1,h1 rfl] using this
  ·have:=zdx h hs e0 e1 (s:=s) (c:=c) (c':=c') (ro:=ro);simpa [hdX,zer,zeE,okC,e0,e1] using this
section
variable {w:World} {lo hi n c lo1 hi1 m d m' d' lo2 hi2 k c2:Nat} {A B B' C:Option Addr} {s t:Sys} {p:Aut}
theorem zfT {v:Vd} (HR:Hid (∀ W,Ext w W->Calls Tryz.prog 44 #[.agg #[s.al,s.st,.slice A n c],.agg #[t.al,t.st,.slice C k c2],.agg #[p.al,.slice B m d,.slice B' m' d']] W (zhn W v)))(hsz:Hid (v.asm.size<=1048576∧v.tr.size<=9223372036854775807)) :
  Calls Tryz.prog 17 #[.agg #[s.al,s.st,.slice A n c],.agg #[t.al,t.st,.slice C k c2],.agg #[p.al,.slice B m d,.slice B' m' d']] w
   (zbs w (hdX v.code v.asm v.tr) (zer v.code v.asm v.tr) (zeE v.code v.asm v.tr) (okC v.code v.asm v.tr)):=by
 have hx0:Ext w ((((w.alloc (.cells #[s.al,s.st,.slice A n c] 38)).alloc (.cells #[t.al,t.st,.slice C k c2] 38)).alloc (.cells #[p.al,.slice B m d,.slice B' m' d'] 31)).alloc (.cells #[.bool false,(0:Int),(),(),.string ⟨#[]⟩] 33)):=((((cY _).alloc _).alloc _).alloc _).alloc _;obtain⟨b1,G,H⟩:=zL ((cY _).alloc _:Ext (((w.alloc (.cells #[s.al,s.st,.slice A n c] 38)).alloc (.cells #[t.al,t.st,.slice C k c2] 38)).alloc (.cells #[p.al,.slice B m d,.slice B' m' d'] 31)) ((((w.alloc (.cells #[s.al,s.st,.slice A n c] 38)).alloc (.cells #[t.al,t.st,.slice C k c2] 38)).alloc (.cells #[p.al,.slice B m d,.slice B' m' d'] 31)).alloc (.cells #[.bool false,(0:Int),(),(),.string ⟨#[]⟩] 33)));have q:=dV (((w.alloc (.cells #[s.al,s.st,.slice A n c] 38)).alloc (.cells #[t.al,t.st,.slice C k c2] 38)).alloc (.cells #[p.al,.slice B m d,.slice B' m' d'] 31)) 33 #[.bool false,(0:Int),(),(),.string ⟨#[]⟩];simp only [World.size_alloc] at q
 go_enter Tryz.func17,Tryz.ntmps17
 go_upto_region 1 with fail
 generalize ((((w.alloc _).alloc _).alloc _).alloc _)=D at *;have c1:=b1.cell;have u:=G.cell;have I:=H.cell;have M:=fun W (hW:Ext D W)=>(q.ext hW).cell;have J:∀ W,Ext D W->_:=fun W hW=>(q.ext hW).frozen;go_wp2_with (first
  |(go_at_call 44;refine (HR.out D hx0).mono ?_;rintro e R ⟨S,T,k1,F,Q,k1',rfl,ho,hx1⟩;clear c1 u I)
  |(go_at_call 58;refine (zgA ho.reads hsz.out.1 hsz.out.2).mono ?_;rintro e w2 ⟨g,l,i,h,o,j,rfl,x,hx2⟩;have f:=hx1.trans hx2;have a:=q.ext f;have O:=a.cell;have L:=a.frozen;clear M J))
 have E:Frm (fun b=>b=w.heap.size+1+1+1) w2 (((((w2.setCell ⟨w.heap.size+1+1+1,0,none⟩ (.bool (hdX v.code v.asm v.tr))).setCell ⟨w.heap.size+1+1+1,1,none⟩ (.int .i64 (zer v.code v.asm v.tr).al)).setCell ⟨w.heap.size+1+1+1,2,none⟩ (.slice g l i)).setCell ⟨w.heap.size+1+1+1,3,none⟩ (.slice h o j)).setCell ⟨w.heap.size+1+1+1,4,none⟩ (.string (zeE v.code v.asm v.tr))):=((((dE w2 _ 0 _).trans (dE _ _ 1 _)).trans (dE _ _ 2 _)).trans (dE _ _ 3 _)).trans (dE _ _ 4 _);have r:Blk (((((w2.setCell ⟨w.heap.size+1+1+1,0,none⟩ (.bool (hdX v.code v.asm v.tr))).setCell ⟨w.heap.size+1+1+1,1,none⟩ (.int .i64 (zer v.code v.asm v.tr).al)).setCell ⟨w.heap.size+1+1+1,2,none⟩ (.slice g l i)).setCell ⟨w.heap.size+1+1+1,3,none⟩ (.slice h o j)).setCell ⟨w.heap.size+1+1+1,4,none⟩ (.string (zeE v.code v.asm v.tr))) (w.heap.size+1+1+1) 33 #[.bool (hdX v.code v.asm v.tr),.int .i64 (zer v.code v.asm v.tr).al,.slice g l i,.slice h o j,.string (zeE v.code v.asm v.tr)]:=by
  simpa using ((((a.ab 0 (.bool (hdX v.code v.asm v.tr))).ab 1 (.int .i64 (zer v.code v.asm v.tr).al)).ab 2 (.slice g l i)).ab 3 (.slice h o j)).ab 4 (.string (zeE v.code v.asm v.tr))
 have y:=(x.ar a E dM).less (show w.heap.size<=R.heap.size by have:=hx0.size;have:=hx1.size;omega);have z:=(hx0.trans f).frm E (fun k hk e=>oM);have cf:=r.cell;exact bodyPost_ret (v:=.tuple #[.agg #[.bool (hdX v.code v.asm v.tr),.int .i64 (zer v.code v.asm v.tr).al,.slice g l i,.slice h o j,.string (zeE v.code v.asm v.tr)],.bool (okC v.code v.asm v.tr)]) (by simp [results,Tryz.results17,go_sem,cf]) rfl ⟨g,l,i,h,o,j,rfl,y,z⟩
end
end Go.Proofs.YtcfchopfijalpaaGreatDoor
