/- The referenc -/
import Derived.Test.YtcfchopfijalpaaGreatDoorD12
set_option maxHeartbeats 4000000
set_option maxRecDepth 100000
namespace Go.Proofs.YtcfchopfijalpaaGreatDoor
open Go Go.RowKit
open Blk renaming new->dX
open Bool renaming and_eq_true->dJ,or_eq_true->fV
open Ext renaming bl_->dZ,eq_->eZ,refl->cY,x2_->gO
open Frm renaming setCell->dH
open Int renaming natCast_add->iQ,toNat_natCast->e9
open List renaming all_eq_true->eL,getElem?_eq_getElem->dF,length_cons->fY,map_map->gS
open Nat renaming le_refl->dG,le_trans->dO,mod_eq_of_lt->iD,mul_comm->fL,mul_le_mul->eV,pow_le_pow_right->eH,zero_le->dI
open Reads renaming af->eF
variable {A A':Option Addr} {G K L Z base c c' g hi j lo n n':Nat} {W w w' w0:World} {a p:Aut} {cd ro:Int} {cs:Array Value} {e:Ending} {s t:Sys} {ss:List Sys} {v:List Nat}
theorem tot_le6:∀ ls:List (List Int),(∀ l∈ls,l.length<=6)->tot ls<=ls.length*6
 |[],_=>by simp [tot]
 |l :: r,h=>by
  have:=tot_le6 r (fun x hx=>h x (by simp [hx]))
  have:=h l sM
  rw [show tot (l :: r)=l.length+tot r by simp [tot],fY,Nat.add_mul]
  omega
theorem zcZ (h:zj a=true):a.size<=1048576:=by
 obtain⟨_,⟨_,f⟩,g,b⟩:=zl h;have i:=tot_le6 a.next (fun l hl=>by
  obtain⟨q,d⟩:=List.getElem?_of_mem hl;obtain⟨c,_⟩:=b q l d;rw [c];exact zE _ _)
 unfold Aut.size;omega
def zjn (w:World) (s:Sys) (p:Aut) (L:Nat) (e:Ending) (w':World):Prop:=
 ∃ (A:Option Addr) (n c:Nat) (B:Option Addr) (m d:Nat) (B':Option Addr) (m' d':Nat),e=.returned (.tuple #[.agg #[s.al,s.st,.slice A n c,p.al,.slice B m d,.slice B' m' d',L],.bool true])∧Tch w' A n B m B' m' s p L∧Ext w w'
section
variable {w:World} {lo hi n c lo1 hi1 m d m' d' lo2 hi2 k c2:Nat} {A B B' C:Option Addr} {s t:Sys} {p:Aut}
theorem spec_TaskOf (hs:zP w lo hi A n s)(hp:zH w lo1 hi1 B m B' m' p)(ht:zP w lo2 hi2 C k t)(hif:iface s p t=(L:Int))(hn:n<=1000000)(hhi:hi<=w.heap.size) :
  Calls Tryz.prog 174 #[.agg #[s.al,s.st,.slice A n c],.agg #[p.al,.slice B m d,.slice B' m' d'],.agg #[t.al,t.st,.slice C k c2]] w (zjn w s p L):=by
 obtain⟨E,V,vt⟩:=zbm (show 0<=iface s p t by omega);have hL:L<64:=by
  rw [zeF E V vt] at hif;have h1:=zR vt;have h2:((s.al.toNat|||p.al.toNat)&&&t.al.toNat)<=t.al.toNat:=Nat.and_le_right;omega
 have z:=za (fun W (hW:Ext w W)=>zcV (c:=c) (d1:=d) (d1':=d') (c2:=c2) (hs.ext hW) (hp.ext hW) (ht.ext hW));rw [hif] at z;obtain⟨P,U⟩:∃ P:Nat,s.st=(P:Int):=⟨s.st.toNat,by have:=(zcA E).1;omega⟩;have I:P<=16:=by have:=(zcA E).2.1;omega
 have HK:=za (fun W (hW:Ext w W)=>spec_l2Keep (c:=c) (hs.ext hW) E U hn (dO hhi hW.size));have HC:=za (fun W (hW:Ext w W)=>zbb (c:=d) (c':=d') (hp.ext hW) (zcZ V));have hF:1<=2 ^ P∧2 ^ P<=65536:=⟨Nat.one_le_two_pow,by have:=eH (show 1<=2 by omega) I;have h2:(2:Nat) ^ 16=65536:=rfl;omega⟩;have G:=za (fun W=>zgG P oM W);have H:=za U;have hV:=za (And.intro E (And.intro V hL));rw [U] at z HK ⊢;generalize hFe:2 ^ P=F at *;have am:IntKind.i64.wrap ((F:Int) - 1)=((F - 1:Nat):Int):=by rw [IntWalk.i64_in _ oM];omega
 clear hFe hs hp ht hif E V vt U;obtain⟨S,U0⟩:∃ x,Hid ((((w.alloc (.cells #[s.al,.int .i64 (P:Nat),.slice A n c] 38)).alloc (.cells #[p.al,.slice B m d,.slice B' m' d'] 31)).alloc (.cells #[t.al,t.st,.slice C k c2] 38)).alloc (.cells #[(0:Int),(0:Int),(),(0:Int),(),(),(0:Int)] 96)=x):=⟨_,za rfl⟩;have hx0:Ext w S:=(((((cY _).alloc _).alloc _).alloc _).alloc _).trans (eZ U0.out);obtain⟨b1,b2,b3⟩:=zL (((cY _).alloc _).trans (eZ U0.out));have Z:=dZ U0.out;simp only [World.size_alloc] at Z
 go_enter Tryz.func174,Tryz.ntmps174
 go_upto_region 1 with fail
 rw [U0.out] at *;have CS:=b1.cells;have CP:=b2.cells;have CT:=b3.cells;have hww:=cY S;go_upto_region 4 with (first
  |(go_at_call 114;refine (z.out _ hx0).mono (mQ fun Y a=>?_)))
 have hx1:=hx0.trans a;have ap:=fun W (hW:Ext Y W)=>CS W (a.trans hW);have ao:=fun W (hW:Ext Y W)=>CP W (a.trans hW);have ad:=cY Y;clear CS CP CT hww;refine uR (fun X=>Ext Y X) [10] (zv.of [0,1,2,6,8,3,4,5,7,9,10,11]) ?_;refine uQ ?_;have q:=ad.drew;refine ze fun K hK=>?_;go_simp;refine (G.out _).mono ?_;rintro e w' ⟨rfl,rfl⟩;refine hK.out _ _ q ?_;refine pT ?_;refine uQ ?_;refine ze fun K hK=>?_;go_simp;refine (HK.out _ (hx1.trans q)).mono ?_;rintro e w2 ⟨j,l,c1,rfl,M,ae⟩;rw [H.out];have g:=q.trans ae;refine hK.out _ _ g ?_;refine pT ?_;refine uQ ?_;refine ze fun K hK=>?_;go_simp;refine (HC.out _ (hx1.trans g)).mono ?_;rintro e h ⟨o,r,d1,b,f,d1',rfl,O,R⟩;have i:=g.trans R;refine hK.out _ _ i ?_;refine pT ?_;refine uQ ?_;have hxw:=hx1.trans i;have T:=Z.ext (a.trans i);have kz:=T.cell;have fz:=T.frozen;have D:=M.ext R;have az:=Z.lt;have y:zP h S.heap.size h.heap.size j l s:=(show zP h _ h.heap.size j l s from ⟨D.1,eF D.2⟩).more (a.trans q).size (dG _);have u:zH h S.heap.size h.heap.size o r b f p:=O.reads.more (a.trans g).size (dG _);have an:=hx0.size;have J:Frm (fun k=>k=w.heap.size+1+1+1) h (((((((h.setCell ⟨w.heap.size+1+1+1,0,none⟩ s.al).setCell ⟨w.heap.size+1+1+1,1,none⟩ (.int .i64 (P:Nat))).setCell ⟨w.heap.size+1+1+1,2,none⟩ (.slice j l c1)).setCell ⟨w.heap.size+1+1+1,3,none⟩ p.al).setCell ⟨w.heap.size+1+1+1,4,none⟩ (.slice o r d1)).setCell ⟨w.heap.size+1+1+1,5,none⟩ (.slice b f d1')).setCell ⟨w.heap.size+1+1+1,6,none⟩ (.int .i64 (L:Nat))):=
  ((((((dH h _ 0 _).trans (dH _ _ 1 _)).trans (dH _ _ 2 _)).trans (dH _ _ 3 _)).trans (dH _ _ 4 _)).trans (dH _ _ 5 _)).trans (dH _ _ 6 _)
 have bW:Blk (((((((h.setCell ⟨w.heap.size+1+1+1,0,none⟩ s.al).setCell ⟨w.heap.size+1+1+1,1,none⟩ (.int .i64 (P:Nat))).setCell ⟨w.heap.size+1+1+1,2,none⟩ (.slice j l c1)).setCell ⟨w.heap.size+1+1+1,3,none⟩ p.al).setCell ⟨w.heap.size+1+1+1,4,none⟩ (.slice o r d1)).setCell ⟨w.heap.size+1+1+1,5,none⟩ (.slice b f d1')).setCell ⟨w.heap.size+1+1+1,6,none⟩ (.int .i64 (L:Nat))) (w.heap.size+1+1+1) 96 #[.int .i64 s.al,.int .i64 (P:Nat),.slice j l c1,.int .i64 p.al,.slice o r d1,.slice b f d1',.int .i64 (L:Nat)]:=by
  simpa using ((((((T.ab 0 (.int .i64 s.al)).ab 1 (.int .i64 (P:Nat))).ab 2 (.slice j l c1)).ab 3 (.int .i64 p.al)).ab 4 (.slice o r d1)).ab 5 (.slice b f d1')).ab 6 (.int .i64 (L:Nat))
 refine zb fun K hK=>?_;go_simp;generalize (((((((h.setCell ⟨w.heap.size+1+1+1,0,none⟩ s.al).setCell ⟨w.heap.size+1+1+1,1,none⟩ (.int .i64 (P:Nat))).setCell ⟨w.heap.size+1+1+1,2,none⟩ (.slice j l c1)).setCell ⟨w.heap.size+1+1+1,3,none⟩ p.al).setCell ⟨w.heap.size+1+1+1,4,none⟩ (.slice o r d1)).setCell ⟨w.heap.size+1+1+1,5,none⟩ (.slice b f d1')).setCell ⟨w.heap.size+1+1+1,6,none⟩ (.int .i64 (L:Nat)))=W at *;have Q:=za (show zjn w s p L (.returned (.tuple #[.agg #[s.al,.int .i64 (P:Nat),.slice j l c1,p.al,.slice o r d1,.slice b f d1',.int .i64 (L:Nat)],.bool true])) W from
  ⟨j,l,c1,o,r,d1,b,f,d1',by rw [H.out],⟨⟨S.heap.size,h.heap.size,y.frm J (fun k h1 h2 e=>oM),u.frm J (fun k h1 h2 e=>oM),J.size⟩,hV.out.1,hV.out.2.1,hV.out.2.2⟩,hxw.frm J (fun k hk e=>oM)⟩)
 have cf:=bW.cell;clear J bW y u kz fz T D M O hxw;refine hK.out _ _ ?_;clear hK;refine pT ?_;refine uQ ?_;refine zf ?_;go_wp2_with fail
 exact bodyPost_ret (v:=.tuple #[.agg #[s.al,.int .i64 (P:Nat),.slice j l c1,p.al,.slice o r d1,.slice b f d1',.int .i64 (L:Nat)],.bool true]) (by simp [results,Tryz.results174,go_sem,cf]) rfl Q.out
end
section
variable {d:Nat->Nat->List Nat} {start L:List Nat} {goal:Nat->Bool} {N:Nat}
theorem zfp (h:¬ Lost d start goal L):∃ v,Found d start goal L v:=by
 have j:∃ v,(∀ l∈v,l∈L)∧∃ x,zbE d start v x∧goal x=true:=by
  apply Classical.byContradiction;intro hn;apply h;intro v b x c;cases hg:goal x with
  |false=>rfl
  |true=>exact absurd ⟨v,b,x,c,hg⟩ hn
 have i:∀ n v,zcY v=n->(∀ l∈v,l∈L)->(∃ x,zbE d start v x∧goal x=true)->∃ v,Found d start goal L v:=by
  intro n
  induction n using Nat.strongRecOn with
  |ind n ih =>
   intro v hn b c
   by_cases hm:∃ u,(∀ l∈u,l∈L)∧zcY u<zcY v∧∃ x,zbE d start u x∧goal x=true
   ·obtain⟨u,f,a,g⟩:=hm;exact ih (zcY u) oM u rfl f g
   ·refine⟨v,b,c,fun u f a x hgx=>?_⟩;cases hg:goal x with
    |false=>rfl
    |true=>exact absurd ⟨u,f,a,x,hgx,hg⟩ hm
 obtain⟨v,b,c⟩:=j;exact i _ v rfl b c
theorem found_len (h:Found d [0] goal L v)(h6:∀ l∈L,l<6)(hN:0<N)(hd:∀ x l,x<N->l∈L->∀ y∈d x l,y<N):v.length<N:=by
 obtain⟨q,⟨x,E,t⟩,b⟩:=h;obtain⟨G,r,i⟩:=zbE.dn (L:=L) (v:=[]) (u:=v) (goal:=goal) (by simpa using E) t q;have hx0:G=0:=by have:=r.ah;simpa using this
 subst hx0;have j:∃ n,Mn d L goal n 0∧n<=v.length:=by
  have p:∀ n,Dn d L goal n 0->∃ m,Mn d L goal m 0∧m<=n:=by
   intro n
   induction n using Nat.strongRecOn with
   |ind n ih =>
    intro g
    by_cases f:∃ m,m<n∧Dn d L goal m 0
    ·obtain⟨m,a,f⟩:=f;obtain⟨k,s,H⟩:=ih m a f;exact⟨k,s,oM⟩
    ·exact⟨n,⟨g,fun m a hm'=>f ⟨m,a,hm'⟩⟩,dG _⟩
  exact p _ i
 obtain⟨n,g,-⟩:=j;have C:=g.lt hN hd;obtain⟨u,D,c,y,F,o⟩:=Dn.word (v:=[]) (start:=[0]) g.1 (.nil sM);rcases Nat.lt_or_ge n v.length with B|z
 ·have:=b u c (ziv (fun l hl=>h6 l (q l hl)) (fun l hl=>h6 l (c l hl)) oM) y (by simpa using F);rw [o] at this;cases this
 ·omega
theorem firstW_ok (h6:∀ l∈L,l<6)(hN:0<N)(hd:∀ x l,x<N->l∈L->∀ y∈d x l,y<N):(∀ l∈zgM d [0] goal L,l<6)∧(zgM d [0] goal L).length<N:=by
 by_cases h:Lost d [0] goal L
 ·rw [(zgC h).1];exact⟨sM,by simpa using hN⟩
 ·obtain⟨v,a⟩:=zfp h;rw [(zfy h6 a).1];exact⟨fun l hl=>h6 l (a.1 l hl),found_len a h6 hN hd⟩
end
theorem wstr_word (h6:∀ l∈v,l<6)(hl:v.length<=50000):zbe (wstr v)=true:=by
 unfold zbe;simp only [dJ,decide_eq_true_eq];refine⟨by rw [ziu];exact hl,?_⟩;rw [eL];intro b hb;unfold wstr lbs at hb;rw [strOfNums_data,gS] at hb;obtain⟨l,hl,rfl⟩:=List.mem_map.1 hb;have a:=h6 l hl;have c:∀ l,l<6->zdn (UInt8.ofNat (97+l))=true:=dM;have e:((fun n:Int=>UInt8.ofNat n.toNat) ∘ fun l:Nat=>((97+l:Nat):Int)) l=UInt8.ofNat (97+l):=by
  show UInt8.ofNat (((97+l:Nat):Int)).toNat=_;rw [e9]
 first
  |(rw [e];exact c l a)
  |(have:=c l a;simpa using this)
theorem vioW_word (hss:∀ s∈ss,zk s=true)(ha:zj a=true)(hp:zj p=true)(hN:zM (zbo ss [a,p])<=50000):zbe (vioW ss a p)=true∧(vioW ss a p).size<zM (zbo ss [a,p]):=by
 have b:∀ m∈zbo ss [a,p],zeB m:=by
  intro m b;unfold zbo at b;rcases List.mem_append.1 b with h|h
  ·obtain⟨s,hs,rfl⟩:=List.mem_map.1 h;exact zeJ (zcA (hss s hs))
  ·simp at h;rcases h with rfl|rfl
   ·exact zbK ha
   ·exact zbK hp
 obtain⟨c,f⟩:=firstW_ok (d:=zcn ss a p) (goal:=zbW a p) (L:=letters (zG ss|||a.al.toNat) 6) (N:=zM (zbo ss [a,p])) (fun l hl=>(zK.1 hl).1) (zgk b) (fun x l _ hl y hy=>by
  rw [zdy] at hy;exact zjd b (zK.1 hl).1 y hy)
 unfold vioW;exact⟨wstr_word c oM,by rw [ziu];exact f⟩
theorem prod_le (hss:∀ s∈ss,zk s=true):zM (zbo ss [a,p])<=16 ^ ss.length*(a.next.length*p.next.length):=by
 induction ss with
 |nil=>simp [zbo,zM,zaA,zbJ]
 |cons s r ih =>
  have b:=ih (fun s hs=>hss s (List.mem_cons_of_mem _ hs));have c:s.st.toNat<=16:=by have:=(zcA (hss s List.mem_cons_self)).2.1;omega
  show zM (zeh s :: zbo r [a,p])<=_;rw [zdZ,fY,Nat.pow_succ]
  calc s.st.toNat*zM (zbo r [a,p])<=16*(16 ^ r.length*(a.next.length*p.next.length)):=eV c b
   _=16 ^ r.length*16*(a.next.length*p.next.length):=by rw [← Nat.mul_assoc,fL 16]
theorem zfM (hs:zk s=true)(ha:zj a=true)(hp:zj p=true):zbe (zbB s a p)=true∧(zbB s a p).size<=2304:=by
 have b:=(zl ha).2.1.2;have c:=(zl hp).2.1.2;have d:=prod_le (ss:=[s]) (a:=a) (p:=p) (by simpa using hs);have g:a.next.length*p.next.length<=12*12:=eV b c;simp only [List.length_singleton,Nat.pow_one] at d;obtain⟨f,h⟩:=vioW_word (ss:=[s]) (by simpa using hs) ha hp oM;unfold zbB;rw [if_pos (by unfold zcQ;rw [hs,ha,hp];rfl)];exact⟨f,oM⟩
theorem zdi (hss:zA ss=true)(hp:zj p=true):zbe (zas ss p)=true∧(zas ss p).size<16 ^ ss.length*12:=by
 obtain⟨⟨i,b⟩,c⟩:=zaP hss;have d:=(zl hp).2.1.2;have f:=prod_le (a:=free) (p:=p) c;have j:free.next.length*p.next.length<=1*12:=eV (dG _) d;have k:zM (zbo ss [free,p])<=16 ^ ss.length*12:=dO f (Nat.mul_le_mul_left _ oM);have g:16 ^ ss.length<=16 ^ 3:=eH oM b;have l:16 ^ ss.length*12<=4096*12:=Nat.mul_le_mul_right _ g;obtain⟨h,m⟩:=vioW_word c zdW hp oM;unfold zas;rw [if_pos (by unfold zcs;rw [hss,hp];rfl)];exact⟨h,oM⟩
noncomputable def zbv (s:Sys) (p:Aut) (t:Sys) (L:Nat) (a:Aut):ByteArray × Int:=
 if zcw s a p=true then (zaU (zbB s a p) L,-1)
 else if zbG [t] a=true then (zaU (zas [t] a) L,if zy s p L (zaU (zas [t] a) L)=true then -1 else 1)
 else (⟨#[]⟩,0)
section
variable {w:World} {lo hi n c lo1 hi1 m d m' d' lo2 hi2 k c2 k1 d1 k1' d1' L:Nat} {A B B' C X X':Option Addr} {s t:Sys} {p a:Aut}
theorem zfI (ht:zP w lo hi C k t)(ha:zH w lo1 hi1 X k1 X' k1' a) :
  Calls Tryz.prog 242 #[.agg #[t.al,t.st,.slice C k c2],.agg #[a.al,.slice X k1 d1,.slice X' k1' d1']] w fun e w'=>e=.returned (.tuple #[.string (zas [t] a),.bool (zbG [t] a)])∧Ext w w':=by
 have j:=za (fun W (hW:Ext w W)=>ht.ext hW);have h:=za (fun W (hW:Ext w W)=>ha.ext hW);clear ht ha
 go_enter Tryz.func242,Tryz.ntmps242
 go_upto_region 1 with fail
 generalize U0:(w.alloc _).alloc _=g at *;obtain⟨hx0,b1,l⟩:=gO U0;clear U0;have c1:=b1.cell;have hx1:=(cY g).alloc (.cells #[t.al,t.st,.slice C k c2] 38);have f:=dX g 38 #[t.al,t.st,.slice C k c2];obtain⟨o,n,b⟩:=zjg f (j.out _ (hx0.trans hx1));have m:=(l.ext hx1).cell;have i:=za (zca (c:=1) (d2:=d1) (d2':=d1') b (h.out _ (hx0.trans hx1)));clear b f;go_wp2_with fail
 refine i.out.mono (mQ fun w2 d=>?_);go_wp2_with fail
 go_ret2;exact⟨rfl,(hx0.trans hx1).trans d⟩
theorem zjT (h:Tch w A n B m B' m' s p L)(ht:zP w lo hi C k t)(ha:zH w lo1 hi1 X k1 X' k1' a) (vt:zk t=true) (va:zj a=true) :
  Calls Tryz.prog 175 #[.agg #[t.al,t.st,.slice C k c2],.agg #[s.al,s.st,.slice A n c,p.al,.slice B m d,.slice B' m' d',L],.agg #[a.al,.slice X k1 d1,.slice X' k1' d1']] w fun e w'=>e=.returned (.tuple #[.string (zbv s p t L a).1,.int .i64 (zbv s p t L a).2])∧Ext w w':=by
 have hL:=h.lt;have j:=za (fun W (hW:Ext w W)=>by
  obtain⟨lo,hi,E,M,_⟩:=h.at_;exact zdr (c:=c) (d1:=d1) (d1':=d1') (d2:=d) (d2':=d') (E.ext hW) (ha.ext hW) (M.ext hW))
 have HS:=za (fun W (hW:Ext w W) (y:ByteArray) hy=>by
  obtain⟨lo,hi,E,M,h3⟩:=h.at_;exact zgp (c:=c) (d:=d) (d':=d') (L:=L) (t:=y) (E.ext hW) (M.ext hW) h.sv h.pv h.lt (dO h3 hW.size) hy)
 have q:=za (fun W (hW:Ext w W)=>zfI (c2:=c2) (d1:=d1) (d1':=d1') (ht.ext hW) (ha.ext hW));have Y:=za (zfM h.sv va h.pv);have hb:=za (zdi (ss:=[t]) (p:=a) (by unfold zA;simp [vt]) va);have i:=za (show zbv s p t L a=if zcw s a p=true then (zaU (zbB s a p) L,-1)
  else if zbG [t] a=true then (zaU (zas [t] a) L,if zy s p L (zaU (zas [t] a) L)=true then -1 else 1)
  else (⟨#[]⟩,0) from rfl)
 generalize zbv s p t L a=J at *;obtain⟨G,S⟩:∃ G,Hid (zbB s a p=G):=⟨_,rfl⟩;obtain⟨D,O⟩:∃ D,Hid (zas [t] a=D):=⟨_,rfl⟩;rw [S.out] at j Y i;rw [O.out] at q hb i;have hx0:Ext w (((w.alloc (.cells #[t.al,t.st,.slice C k c2] 38)).alloc (.cells #[s.al,s.st,.slice A n c,p.al,.slice B m d,.slice B' m' d',L] 96)).alloc (.cells #[a.al,.slice X k1 d1,.slice X' k1' d1'] 31)):=(((cY _).alloc _).alloc _).alloc _;obtain⟨b1,H,I⟩:=zL (cY (((w.alloc (.cells #[t.al,t.st,.slice C k c2] 38)).alloc (.cells #[s.al,s.st,.slice A n c,p.al,.slice B m d,.slice B' m' d',L] 96)).alloc (.cells #[a.al,.slice X k1 d1,.slice X' k1' d1'] 31)));clear h ht ha vt va;cases hub:zcw s a p
 ·cases hbb:zbG [t] a
  ·have zkk:=za (show J=(⟨#[]⟩,0) by rw [i.out,hub,hbb];rfl);rw [hub] at j;rw [hbb] at q;rw [zkk.out];clear i zkk hub hbb
   go_enter Tryz.func175,Tryz.ntmps175
   go_upto_region 1 with fail
   generalize ((w.alloc _).alloc _).alloc _=x at *;have V:=b1.cells;have U:=H.cells;have T:=I.cells;have hww:=cY x;go_wp2_with (first
    |(go_at_call 72;refine (j.out _ hx0).mono (mQ fun Z hx1=>?_))
    |(go_at_call 242;refine (q.out _ (hx0.trans hx1)).mono (mQ fun w2 l=>?_);have g:=hx1.trans l))
   go_ret2;exact⟨rfl,hx0.trans g⟩
  ·obtain⟨f,u⟩:∃ f,Hid (zaU D L=f):=⟨_,rfl⟩;have z:=za (fun W=>zcG (w:=W) (s:=D) (a:=L) hb.out.1 oM);have Q:=za (show f.size<=9223372036854775807 by
    rw [← u.out];have E:=zbi (zaH (zdH hb.out.1 L));omega)
   rw [u.out] at z i;have r:=za (fun W (hW:Ext w W)=>HS.out W hW f Q.out);obtain⟨F,R⟩:∃ F,Hid (zy s p L f=F):=⟨_,rfl⟩;rw [R.out] at r i;rw [hub] at j;rw [hbb] at q;have zkk:=za (show J=(f,if F=true then -1 else 1) by rw [i.out,hub,hbb];rfl);rw [zkk.out];clear i zkk hub hbb;cases F
   all_goals
    go_enter Tryz.func175,Tryz.ntmps175
    go_upto_region 1 with fail
    generalize ((w.alloc _).alloc _).alloc _=x at *;have V:=b1.cells;have U:=H.cells;have T:=I.cells;have hww:=cY x;go_wp2_with (first
     |(go_at_call 72;refine (j.out _ hx0).mono (mQ fun Z hx1=>?_))
     |(go_at_call 242;refine (q.out _ (hx0.trans hx1)).mono (mQ fun w2 l=>?_);have g:=hx1.trans l)
     |(go_at_call 73;refine (z.out _).mono (mQ fun w3 o=>?_);have b:=g.trans o)
     |(go_at_call 75;refine (r.out _ (hx0.trans b)).mono (mQ fun w4 hx4=>?_);have v:=b.trans hx4))
    go_ret2;exact⟨rfl,hx0.trans v⟩
 ·have z:=za (fun W=>zcG (w:=W) (s:=G) (a:=L) Y.out.1 oM);rw [hub] at j;have zkk:=za (show J=(zaU G L,-1) by rw [i.out,hub];rfl);rw [zkk.out];clear i zkk hub
  go_enter Tryz.func175,Tryz.ntmps175
  go_upto_region 1 with fail
  generalize ((w.alloc _).alloc _).alloc _=x at *;have V:=b1.cells;have U:=H.cells;have T:=I.cells;have hww:=cY x;go_wp2_with (first
   |(go_at_call 72;refine (j.out _ hx0).mono (mQ fun Z hx1=>?_))
   |(go_at_call 73;refine (z.out _).mono (mQ fun w3 o=>?_);have b:=hx1.trans o))
  go_ret2;exact⟨rfl,hx0.trans b⟩
end
structure Vd where
 code:Int
 asm:Aut
 tr:ByteArray
 ro:Nat
def noA:Aut:=⟨0,[],[]⟩
noncomputable def runT (s t:Sys) (p:Aut) (L:Nat):Nat->Nat->Option (List ByteArray × List ByteArray)->Vd
 |0,k,_=>⟨2,noA,⟨#[]⟩,k⟩
 |_+1,k,none=>⟨2,noA,⟨#[]⟩,k⟩
 |f+1,k,some tab =>
  if (zbv s p t L (zek L (zy s p L) tab.1 tab.2)).2=0 then ⟨0,zek L (zy s p L) tab.1 tab.2,⟨#[]⟩,k+1⟩
  else if (zbv s p t L (zek L (zy s p L) tab.1 tab.2)).2=1 then ⟨1,noA,zas [s,t] p,k+1⟩
  else runT s t p L f (k+1) (zbx L (zy s p L) tab.1 tab.2 (zbv s p t L (zek L (zy s p L) tab.1 tab.2)).1)
def zdO (w:World) (v:Vd) (e:Ending) (w':World):Prop:=
 ∃ (A:Option Addr) (n c:Nat) (A':Option Addr) (n' c':Nat) (x:Int) (X:Option Addr) (k1 d1:Nat) (X':Option Addr) (k1' d1':Nat),
  e=.returned (.tuple #[.agg #[v.code,v.asm.al,.slice A n c,.slice A' n' c',v.tr,v.ro],.agg #[x,.slice X k1 d1,.slice X' k1' d1']])∧zab w' w.heap.size A n c A' n' c' v.asm∧Ext w w'
def zfS (L:Nat) (f:ByteArray->Bool) (o:Option (List ByteArray × List ByteArray)):Prop:=∀ rs cs,o=some (rs,cs)->zcj L f rs cs∧zaT L f rs cs=none
theorem zfS.new (L:Nat) (f:ByteArray->Bool):zfS L f ((zat L f [⟨#[]⟩] 11 [⟨#[]⟩]).map fun r=>(r,[⟨#[]⟩])):=by
 intro rs cs h;obtain⟨r,c,e⟩:=Option.map_eq_some_iff.1 h;obtain⟨rfl,rfl⟩:=Prod.mk.inj e;obtain⟨a,b,-⟩:=zhL 11 _ _ (zcj.first L f) dM c
 exact⟨a,b⟩
theorem zfS.ay {f:ByteArray->Bool} {rows cols:List ByteArray}(h:zcj L f rows cols) (x:ByteArray):zfS L f (zbx L f rows cols x):=by
 intro rs cs hl;unfold zbx at hl
 split at hl
 ·cases hl
 ·rename_i col hc
  split at hl
  ·rename_i ha;obtain⟨r,d,e⟩:=Option.map_eq_some_iff.1 hl;obtain⟨rfl,rfl⟩:=Prod.mk.inj e;have c:=h.addC ha;obtain⟨a,b,-⟩:=zhL _ _ _ c (oH h.r12) d;exact⟨a,b⟩
  ·cases hl
theorem judgeT_size (hs:zk s=true)(hp:zj p=true)(ht:zk t=true)(ha:zj a=true):(zbv s p t L a).1.size<=50000:=by
 have b:=zfM hs ha hp;have c:=zdi (ss:=[t]) (p:=a) (by unfold zA;simp [ht]) ha;unfold zbv;split
 ·exact zbi (zaH (zdH b.1 L))
 ·split
  ·exact zbi (zaH (zdH c.1 L))
  ·exact dI _
def TabM (w0 W:World) (g:Nat) (o:Option (List ByteArray × List ByteArray)):Prop:=
 ∃ (nr nc:Nat) (R:Option Addr) (cr:Nat) (C:Option Addr) (cc:Nat),Blk W g 101 #[.slice R nr cr,.slice C nc cc]∧nr<=cr∧nc<=cc ∧
  ∀ rs cs,o=some (rs,cs)->W.ownsRow w0.heap.size 9 1 (.slice R nr cr) nr (zS rs)∧W.ownsRow w0.heap.size 9 1 (.slice C nc cc) nc (zS cs)
theorem TabM.far {W':World}  {o:Option (List ByteArray × List ByteArray)}  {t:TypeId}(h:TabM w0 W g o)(hB:Blk W G t cs)(hf:Frm (fun k=>k=G) W W')(hg:g≠G)(ht:9≠t):TabM w0 W' g o:=by
 obtain⟨l,j,R,d,C,c,hb,f,i,a⟩:=h;exact⟨l,j,R,d,C,c,hb.frm hf hg,f,i,fun rs cs e=>⟨zg (a rs cs e).1 hf (fun b hv e'=>zr (a rs cs e).1 hB ht hv e'),zg (a rs cs e).2 hf (fun b hv e'=>zr (a rs cs e).2 hB ht hv e')⟩⟩
theorem zcX.fill {o:Option (List ByteArray × List ByteArray)} (h:zcX w o e W)(hw:w0.heap.size<=w.heap.size) :
  Ext w W∧∃ (nr nc:Nat) (R:Option Addr) (cr:Nat) (C:Option Addr) (cc:Nat),e=.returned (.tuple #[.agg #[.slice R nr cr,.slice C nc cc],.bool o.isSome])∧nr<=cr∧nc<=cc ∧
   ∀ rs cs,o=some (rs,cs)->W.ownsRow w0.heap.size 9 1 (.slice R nr cr) nr (zS rs)∧W.ownsRow w0.heap.size 9 1 (.slice C nc cc) nc (zS cs):=by
 obtain⟨c,⟨rfl,rfl⟩|⟨rs,cs,nr,nc,R,cr,C,cc,rfl,rfl,a,b⟩⟩:=h
 ·exact⟨c,0,0,none,0,none,0,rfl,dG _,dG _,fun _ _ e=>by cases e⟩
 ·refine⟨c,nr,nc,R,cr,C,cc,rfl,zhA a,zhA b,fun rs' cs' e=>?_⟩;obtain⟨rfl,rfl⟩:=Prod.mk.inj (Option.some.inj e);exact⟨zq a hw,zq b hw⟩
theorem sl_pair {lo2 hi2 k c2:Nat} {C:Option Addr} (hb:Blk w g 38 #[s.al,s.st,.slice A n c,t.al,t.st,.slice C k c2])(h:zP w lo hi A n s)(h':zP w lo2 hi2 C k t):∃ lo hi,zgL w lo hi (some ⟨g,0,none⟩) 2 [s,t]:=by
 refine⟨0,hi+hi2+g+1,rfl,[.int .i64 s.al,.int .i64 s.st,.slice A n c,.int .i64 t.al,.int .i64 t.st,.slice C k c2],⟨rfl,oM,fun _=>⟨_,rfl,dI _,by dsimp only;omega,fun j u hu=>?_⟩⟩,fun j u hu=>?_⟩
 ·rw [zZ,Nat.zero_add,hb.cell];simpa using hu
 ·match j with
  |0 =>
   simp at hu;subst hu;exact⟨A,n,c,rfl,rfl,rfl,h.1,h.2.more (dI _) oM⟩
  |1 =>
   simp at hu;subst hu;exact⟨C,k,c2,rfl,rfl,rfl,h'.1,h'.2.more (dI _) oM⟩
  |j+2=>simp at hu
theorem zdO.drew {v:Vd} (h:zdO w v e W):zdO w v e W.drew:=by
 obtain⟨A,n,c,a,g,b,x,X,k1,d1,X',k1',d1',d,ho,f⟩:=h;have hd:Ext W W.drew:=(cY W).drew;exact⟨A,n,c,a,g,b,x,X,k1,d1,X',k1',d1',d,ho.ext hd,f.trans hd⟩
theorem zdO.cast {v u:Vd} (hu:u=v)(h:zdO w v e W):zdO w u e W:=hu ▸ h
def roAt (W:World) (g:Nat):Nat:=match W.cell? ⟨g,5,none⟩ with|some (.int _ z)=>z.toNat|_=>0
theorem roAt_blk {t:TypeId} {u0 u1 u2 u3 u4:Value}(h:Blk W g t #[u0,u1,u2,u3,u4,j]):roAt W g=j:=by
 unfold roAt;rw [h.cell 5];exact e9 j
theorem runT_end {o:Option (List ByteArray × List ByteArray)}(h:¬ (o.isSome=true∧j<K)):runT s t p L (K - j) j o=⟨2,noA,⟨#[]⟩,j⟩:=by
 cases hk:K - j with
 |zero=>rfl
 |succ f =>
  cases o with
  |none=>rfl
  |some tab=>exact absurd ⟨rfl,oM⟩ h
theorem zid (W:World) (Z:Nat) (u0 u1 u2 u3 u4 u5:Value):Frm (fun k=>k=Z) W ((((((W.setCell Z u0).setCell ⟨Z,1,none⟩ u1).setCell ⟨Z,2,none⟩ u2).setCell ⟨Z,3,none⟩ u3).setCell ⟨Z,4,none⟩ u4).setCell ⟨Z,5,none⟩ u5):=
 (((((dH W _ 0 _).trans (dH _ _ 1 _)).trans (dH _ _ 2 _)).trans (dH _ _ 3 _)).trans (dH _ _ 4 _)).trans (dH _ _ 5 _)
theorem Frm.drew {S:Nat->Prop} {a:World}(h:Frm S a w):Frm S a w.drew:=⟨h.os,h.tape,h.output,h.size,h.block⟩
theorem zhD {k1 d1 k1' d1':Nat} {X X':Option Addr} {v:Vd} {x:Int} {vs us:Array Value}(hx:Ext w W)(hv:Blk W Z 67 vs)(hu:Blk W (Z+1) 31 us)(h6:vs.size=6)(h3:us.size=3)(hZ:w.heap.size<=Z)(ho:zab W w.heap.size A n c A' n' c' v.asm) :
  Hid (zdO w v (.returned (.tuple #[.agg #[v.code,v.asm.al,.slice A n c,.slice A' n' c',v.tr,v.ro],.agg #[x,.slice X k1 d1,.slice X' k1' d1']]))
   (((((((((W.setCell Z v.code).setCell ⟨Z,1,none⟩ v.asm.al).setCell ⟨Z,2,none⟩ (.slice A n c)).setCell ⟨Z,3,none⟩ (.slice A' n' c')).setCell ⟨Z,4,none⟩ v.tr).setCell ⟨Z,5,none⟩ v.ro).setCell ⟨Z+1,0,none⟩ x).setCell ⟨Z+1,1,none⟩ (.slice X k1 d1)).setCell ⟨Z+1,2,none⟩ (.slice X' k1' d1'))) ∧
  Blk (((((((((W.setCell Z v.code).setCell ⟨Z,1,none⟩ v.asm.al).setCell ⟨Z,2,none⟩ (.slice A n c)).setCell ⟨Z,3,none⟩ (.slice A' n' c')).setCell ⟨Z,4,none⟩ v.tr).setCell ⟨Z,5,none⟩ v.ro).setCell ⟨Z+1,0,none⟩ x).setCell ⟨Z+1,1,none⟩ (.slice X k1 d1)).setCell ⟨Z+1,2,none⟩ (.slice X' k1' d1')) Z 67 #[v.code,v.asm.al,.slice A n c,.slice A' n' c',v.tr,v.ro] ∧
  Blk (((((((((W.setCell Z v.code).setCell ⟨Z,1,none⟩ v.asm.al).setCell ⟨Z,2,none⟩ (.slice A n c)).setCell ⟨Z,3,none⟩ (.slice A' n' c')).setCell ⟨Z,4,none⟩ v.tr).setCell ⟨Z,5,none⟩ v.ro).setCell ⟨Z+1,0,none⟩ x).setCell ⟨Z+1,1,none⟩ (.slice X k1 d1)).setCell ⟨Z+1,2,none⟩ (.slice X' k1' d1')) (Z+1) 31 #[.int .i64 x,.slice X k1 d1,.slice X' k1' d1']:=by
 obtain⟨i⟩:=vs
 match i,h6 with
 |[a0,a1,a2,a3,a4,a5],_ =>
 have a:Frm (fun k=>k=Z) W ((((((W.setCell Z v.code).setCell ⟨Z,1,none⟩ v.asm.al).setCell ⟨Z,2,none⟩ (.slice A n c)).setCell ⟨Z,3,none⟩ (.slice A' n' c')).setCell ⟨Z,4,none⟩ v.tr).setCell ⟨Z,5,none⟩ v.ro):=
  (((((dH W _ 0 _).trans (dH _ _ 1 _)).trans (dH _ _ 2 _)).trans (dH _ _ 3 _)).trans (dH _ _ 4 _)).trans (dH _ _ 5 _)
 have g:Blk ((((((W.setCell Z v.code).setCell ⟨Z,1,none⟩ v.asm.al).setCell ⟨Z,2,none⟩ (.slice A n c)).setCell ⟨Z,3,none⟩ (.slice A' n' c')).setCell ⟨Z,4,none⟩ v.tr).setCell ⟨Z,5,none⟩ v.ro) Z 67 #[.int .i64 v.code,.int .i64 v.asm.al,.slice A n c,.slice A' n' c',.string v.tr,.int .i64 v.ro]:=by
  simpa using (((((hv.ab 0 (.int .i64 v.code)).ab 1 (.int .i64 v.asm.al)).ab 2 (.slice A n c)).ab 3 (.slice A' n' c')).ab 4 (.string v.tr)).ab 5 (.int .i64 v.ro)
 have f:=ho.av hv a dM;have d:=hu.frm a oM;have hx1:Ext w ((((((W.setCell Z v.code).setCell ⟨Z,1,none⟩ v.asm.al).setCell ⟨Z,2,none⟩ (.slice A n c)).setCell ⟨Z,3,none⟩ (.slice A' n' c')).setCell ⟨Z,4,none⟩ v.tr).setCell ⟨Z,5,none⟩ v.ro):=hx.frm a (fun k hk e=>oM);generalize (((((W.setCell Z v.code).setCell ⟨Z,1,none⟩ v.asm.al).setCell ⟨Z,2,none⟩ (.slice A n c)).setCell ⟨Z,3,none⟩ (.slice A' n' c')).setCell ⟨Z,4,none⟩ v.tr).setCell ⟨Z,5,none⟩ v.ro=h at *;have b:=zau h (Z+1) (.int .i64 x) (.slice X k1 d1) (.slice X' k1' d1');exact⟨za ⟨A,n,c,A',n',c',x,X,k1,d1,X',k1',d1',rfl,f.av d b dM,hx1.frm b (fun k hk e=>oM)⟩,g.frm b oM,zaE d h3 _ _ _⟩
section
variable {w:World} {lo hi n c lo1 hi1 m d m' d' lo2 hi2 k c2:Nat} {A B B' C:Option Addr} {s t:Sys} {p:Aut}
theorem yD13a3 {P:Prop}(h:P:=by
 clear hflag hgo ho hon hne1 hne2 hd hb8 hb9' hxw;go_wp2_with fail
 refine zbC (fun Y=>Frm (fun b=>b=Z) wr Y) [3] (zv.of [0,1,2,3]) kM kM kM kM kM (fun _ _ _ _ _ h=>h) hS0 ?_;refine zbP (v:=?_) rfl rfl rfl rfl (fun X hX=>?_) ?_
 rotate_left
 focus (go_simp<;>with_reducible rfl)
 refine pT ?_;refine zbP (v:=?_) rfl rfl rfl rfl (fun X hX=>?_) ?_
 rotate_left
 focus (go_simp<;>with_reducible rfl)
 refine pT ?_;refine ze fun K hK=>?_;go_simp;refine hK.out _ _ hf8.out.drew ?_;refine pT ?_;refine zb fun K hK=>?_;go_simp;refine hK.out _ _ ?_;refine zf ?_;go_wp2_with fail
 have cf2:=F2.out.cell;have cf3:=F3.out.cell;exact bodyPost_ret (v:=.tuple #[.agg #[(2:Int),(0:Int),(),(),.string ⟨#[]⟩,j],.agg #[x,.slice X k1 d1,.slice X' k1' d1']]) (by simp [results,Tryz.results97,go_sem,cf2,cf3]) rfl F1.out
 ):P:=h
theorem spec_l12Run (hs:zP w lo hi A n s)(hp:zH w lo1 hi1 B m B' m' p)(ht:zP w lo2 hi2 C k t)(hif:iface s p t=(L:Int))(hn:n<=1000000)(hhi:hi<=w.heap.size)(hK:K<=1000) :
  Calls Tryz.prog 97 #[.agg #[s.al,s.st,.slice A n c],.agg #[t.al,t.st,.slice C k c2],.agg #[p.al,.slice B m d,.slice B' m' d'],K] w
   (zdO w (runT s t p L K 0 ((zat L (zy s p L) [⟨#[]⟩] 11 [⟨#[]⟩]).map fun r=>(r,[⟨#[]⟩])))):=by
 obtain⟨vs,vp,vt⟩:=zbm (show 0<=iface s p t by omega);have Hv:=za (And.intro vs (And.intro vp vt));have bo:=za (fun W (hW:Ext w W)=>spec_TaskOf (c:=c) (d:=d) (d':=d') (c2:=c2) (hs.ext hW) (hp.ext hW) (ht.ext hW) hif hn (dO hhi hW.size));have bO:=za (fun W (hW:Ext w W)=>show Calls Tryz.prog 147 #[.slice (some W.heap.size) 2 2,.agg #[p.al,.slice B m d,.slice B' m' d']] (W.alloc (.cells #[s.al,s.st,.slice A n c,t.al,t.st,.slice C k c2] 38)) (fun e w'=>e=.returned (.tuple #[.string (zas [s,t] p),.bool (zbG [s,t] p)])∧Ext W w') by
  have f6:=(cY W).alloc (.cells #[s.al,s.st,.slice A n c,t.al,t.st,.slice C k c2] 38);obtain⟨l1,l2,cD⟩:=sl_pair (dX W 38 #[s.al,s.st,.slice A n c,t.al,t.st,.slice C k c2]) (hs.ext (hW.trans f6)) (ht.ext (hW.trans f6));exact (zca cD (hp.ext (hW.trans f6))).mono (fun e w' h=>⟨h.1,f6.trans h.2⟩))
 have c7:=za (fun W (hW:Ext w W)=>hs.ext hW);have cu:=za (fun W (hW:Ext w W)=>ht.ext hW);obtain⟨ag,zkk⟩:∃ ag,Hid (runT s t p L K 0 ((zat L (zy s p L) [⟨#[]⟩] 11 [⟨#[]⟩]).map fun r=>(r,[⟨#[]⟩]))=ag):=⟨_,rfl⟩;have bh:=za (zfS.new L (zy s p L));rw [zkk.out];obtain⟨aB,bf⟩:∃ aB,Hid ((zat L (zy s p L) [⟨#[]⟩] 11 [⟨#[]⟩]).map (fun r=>(r,[(⟨#[]⟩:ByteArray)]))=aB):=⟨_,rfl⟩;rw [bf.out] at zkk bh;clear hs hp ht hif vs vp vt;obtain⟨w0,U0⟩:∃ x,Hid (((((w.alloc (.cells #[s.al,s.st,.slice A n c] 38)).alloc (.cells #[t.al,t.st,.slice C k c2] 38)).alloc (.cells #[p.al,.slice B m d,.slice B' m' d'] 31)).alloc (.cells #[(0:Int),(0:Int),(),(),.string ⟨#[]⟩,(0:Int)] 67)).alloc (.cells #[(0:Int),(),()] 31)=x):=⟨_,za rfl⟩;have hx0:Ext w w0:=((((((cY _).alloc _).alloc _).alloc _).alloc _).alloc _).trans (eZ U0.out);obtain⟨b1,b2,b3⟩:=zL ((((cY _).alloc _).alloc _).trans (eZ U0.out));obtain⟨b8,b9⟩:=zN (eZ U0.out);simp only [World.size_alloc] at b8 b9
 go_enter Tryz.func97,Tryz.ntmps97
 go_upto_region 1 with fail
 rw [U0.out] at *;have CS:=b1.cells;have CT:=b2.cells;have CP:=b3.cells;have dh:=b9.lt;have dg:w.heap.size<=w.heap.size+1+1+1:=oM;generalize w.heap.size+1+1+1=Z at *;have hww:=cY w0;go_upto_region 2 with (first
  |(go_at_call 174;refine (bo.out _ hx0).mono ?_;rintro e w1 ⟨A,n,c,B,m,d,B',m',d',rfl,bg,cb⟩))
 have cK:=(dX w1 96 #[s.al,s.st,.slice A n c,p.al,.slice B m d,.slice B' m' d',L]).cell;go_upto_region 5 with fail
 obtain⟨bL,bV⟩:∃ bL,Hid (w1.heap.size=bL):=⟨_,rfl⟩;generalize U0:(w1.alloc _).alloc _=w2 at *;obtain⟨bi,bK,bT⟩:=gO U0;clear U0;rw [bV.out] at bK bT ⊢;clear cK;have V:=bg.ext bi;have a:=cb.trans bi;have di:=bT.lt;have bN:=za (fun W (hW:Ext w2 W)=>zjQ (c:=c) (d:=d) (d':=d') (V.ext hW));rw [bf.out] at bN;have cv:=za (fun (R:Option Addr) (nr cr:Nat) (C:Option Addr) (nc cc:Nat) (rows cols:List ByteArray) W (hW:Ext w2 W) hT hI ai ah an=>zdq (c:=c) (d:=d) (d':=d') (nr:=nr) (nc:=nc) (R:=R) (C:=C) (cr:=cr) (cc:=cc) (rows:=rows) (cols:=cols) (V.ext hW) hT hI ai ah an);have ct:=za (fun (R:Option Addr) (nr cr:Nat) (C:Option Addr) (nc cc:Nat) (rows cols:List ByteArray) (x:ByteArray) W (hW:Ext w2 W) hT hI ai ah an hx=>ziF (c:=c) (d:=d) (d':=d') (nr:=nr) (nc:=nc) (R:=R) (C:=C) (cr:=cr) (cc:=cc) (rows:=rows) (cols:=cols) (x:=x) (V.ext hW) hT hI ai ah an hx);have bJ:=bT.cells;have cp:=bK.cells;have co:=fun W (hW:Ext w2 W)=>CS W (a.trans hW);have bI:=fun W (hW:Ext w2 W)=>CT W (a.trans hW);have cn:=fun W (hW:Ext w2 W)=>CP W (a.trans hW);have ca:=cY w2;clear hww CS CT CP;go_upto_region 6 with (first
  |(go_at_call 70;refine (bN.out _ ca).mono ?_;intro e w3 hret;obtain⟨bB,nr,nc,R,cr,C,cc,rfl,ai,ah,bu⟩:=hret.fill (w0:=w2) (dG _);clear hret))
 go_wp2_with fail
 obtain⟨G,hG⟩:∃ G,Hid (w3.heap.size=G):=⟨_,rfl⟩;have df:w2.heap.size<=G:=by rw [← hG.out];exact bB.size
 generalize U0:((w3.alloc _).alloc _).alloc _=w6 at *;obtain⟨ay,ak,E,ae⟩:=Ext.x3_ U0;clear U0;rw [hG.out] at ak E ae ⊢;have bj:=bB.trans ay;have aJ:TabM w2 w6 G aB:=⟨nr,nc,R,cr,C,cc,ak,ai,ah,fun rs cs e=>⟨zh (bu rs cs e).1 ay,zh (bu rs cs e).2 ay⟩⟩;clear bu ak bB ay
 go_loopw [14] (fun fv wr=>∃ (o:Option (List ByteArray × List ByteArray)) (j:Nat) (x:Int) (X:Option Addr) (k1 d1:Nat) (X':Option Addr) (k1' d1':Nat),fv=.bool o.isSome∧j<=K∧Hid (zfS L (zy s p L) o)∧Hid (runT s t p L (K - j) j o=ag)∧TabM w2 wr G o∧Blk wr (G+1) 67 #[(2:Int),(0:Int),(),(),.string ⟨#[]⟩,j]∧Blk wr (G+1+1) 31 #[x,.slice X k1 d1,.slice X' k1' d1']∧Ext w2 wr) (fun _ wr=>K - roAt wr (G+1))
 case atStart=>exact⟨aB,0,0,none,0,0,none,0,0,rfl,dI _,bh,zkk,aJ,E,ae,bj⟩
 case round =>
  clear aJ E ae bj;obtain⟨o,j,x,X,k1,d1,X',k1',d1',rfl,hj,cC,be,aJ,E,ae,aS⟩:=hrel;have au:=E.cell;have av:=ae.cell
  by_cases hgo:o.isSome=true∧j<K
  ·obtain⟨⟨⟨rs,cs⟩,rfl⟩,dj⟩:(∃ q,o=some q)∧j<K:=⟨Option.isSome_iff_exists.1 hgo.1,hgo.2⟩;clear hgo;obtain⟨hI,an⟩:=cC.out rs cs rfl;have cU:(j:Int)<(K:Int):=oM;have am:=E.frozen;have a9:Blk (wr.setCell ⟨G+1,5,none⟩ (.int .i64 ((j:Int)+1))) (G+1) 67 #[.int .i64 2,.int .i64 0,.slice none 0 0,.slice none 0 0,.string ⟨#[]⟩,.int .i64 ((j:Int)+1)]:=by
    simpa using E.ab 5 (.int .i64 ((j:Int)+1))
   have bw:Frm (fun b=>b=G+1) wr (wr.setCell ⟨G+1,5,none⟩ (.int .i64 ((j:Int)+1))):=dH wr _ 5 _;have ba:=ae.frm bw oM;have bY:=aJ.far E bw oM dM;have aR:=aS.setCell (p:=⟨G+1,5,none⟩) (by dsimp only;omega) (.int .i64 ((j:Int)+1));go_upto_region 10 with fail
   have b6:=za (roAt_blk E);clear au av am aJ E ae aS bw;generalize wr.setCell ⟨G+1,5,none⟩ (.int .i64 ((j:Int)+1))=wA at *;obtain⟨nr,nc,R,cr,C,cc,ak,ai,ah,bZ⟩:=bY;obtain⟨oR,oC⟩:=bZ rs cs rfl;have a2:=za (show TabAt wA R nr C nc rs cs from ⟨_,_,_,_,eF oR,eF oC⟩);have bC:=ak.cell;have bq:=bJ wA aR;have bs:=za hI;have bd:=za an;have aY:=za (zdh hI an bg.lt);clear hI an bZ;go_upto_region 11 with (first
    |(go_at_call 71;refine (cv.out _ _ _ _ _ _ rs cs _ aR a2.out bs.out ai ah bd.out).mono ?_;rintro e wB ⟨Y,q1,e1,Y',I,D,rfl,ap,cd⟩))
   obtain⟨f,bc⟩:∃ f,Hid (zek L (zy s p L) rs cs=f):=⟨_,rfl⟩;rw [bc.out] at ap aY ⊢;generalize U0:wB.alloc _=wC at *;have ce:=Ext.al_ U0;have bQ:=dZ U0;have aL:=ap.ext ce;clear U0;have T:=cd.trans ce;have F:=ba.ext T;have a7:=a9.ext T;have a5:=ak.ext T;have bE:=zh oR T;have bD:=zh oC T;have av:=F.cell;have cz:=F.frozen;have cE:=bQ.cell;have ao:=zau wC (G+1+1) (.int .i64 f.al) (.slice Y q1 e1) (.slice Y' I D);have aE:=zaE F rfl (.int .i64 f.al) (.slice Y q1 e1) (.slice Y' I D);have a8:=a7.frm ao oM;have a6:=a5.frm ao oM;have cj:=zg bE ao (fun b hv e=>zr bE F dM hv e);have ci:=zg bD ao (fun b hv e=>zr bD F dM hv e);have aq:=aL.av F ao dM;have aQ:=((aR.trans T).frm ao (fun k hk e=>oM));have dl:=za (aR.trans cd).size;have dk:=za aR.size;clear F a7 a5 bE bD ao aL ap bQ ba a9 ak oR oC bC bq a2;go_upto_region 12 with fail
   generalize ((wC.setCell ⟨G+1+1,0,none⟩ f.al).setCell ⟨G+1+1,1,none⟩ (.slice Y q1 e1)).setCell ⟨G+1+1,2,none⟩ (.slice Y' I D)=wD at *;clear av cz cE;have HJ:=za (zjT (c:=c) (d:=d) (d':=d') (c2:=c2) (d1:=e1) (d1':=D) (V.ext aQ) (cu.out wD (hx0.trans (a.trans aQ))) aq.reads Hv.out.2.2 aY.out);have bW:=za (judgeT_size (L:=L) Hv.out.1 Hv.out.2.1 Hv.out.2.2 aY.out);obtain⟨J,hJ⟩:∃ J,Hid (zbv s p t L f=J):=⟨_,rfl⟩;rw [hJ.out] at HJ bW;have av:=aE.cell;have cx:=cp wD aQ;have cy:=bI wD aQ;go_upto_region 13 with (first
    |(go_at_call 175;refine HJ.out.mono (mQ fun wE ar=>?_)))
   have g:=aQ.trans ar;have Q:=aE.ext ar;have l:=a8.ext ar;have ad:=a6.ext ar;have a0:=zh cj ar;have aZ:=zh ci ar;have U:=aq.ext ar;clear av cx cy aE a8 a6 cj ci aq HJ;have z:=za (show (if J.2=0 then (⟨0,f,⟨#[]⟩,j+1⟩:Vd) else if J.2=1 then ⟨1,noA,zas [s,t] p,j+1⟩ else runT s t p L (K - (j+1)) (j+1) (zbx L (zy s p L) rs cs J.1))=ag by
    rw [← be.out,show K - j=(K - (j+1))+1 by omega];show _=runT s t p L ((K - (j+1))+1) j (some (rs,cs));rw [runT,bc.out,hJ.out])
   by_cases hJ0:J.2=0
   ·have aK:=za (show ag=⟨0,f,⟨#[]⟩,j+1⟩ by rw [← z.out,if_pos hJ0]);have au:=l.cell;have am:=l.frozen;have u:Blk (wE.setCell ⟨G+1,0,none⟩ (0:Int)) (G+1) 67 #[.int .i64 0,.int .i64 0,.slice none 0 0,.slice none 0 0,.string ⟨#[]⟩,.int .i64 ((j:Int)+1)]:=by
     simpa using l.ab 0 (.int .i64 0)
    have bx:Frm (fun b=>b=G+1) wE (wE.setCell ⟨G+1,0,none⟩ (0:Int)):=dH wE _ 0 _;have S:=Q.frm bx oM;have aN:=U.av l bx dM;have aj:=g.setCell (p:=⟨G+1,0,none⟩) (by dsimp only;omega) (.int .i64 0);clear z ad Q a0 aZ bx U l;go_upto_region 16 with fail
    generalize wE.setCell ⟨G+1,0,none⟩ (0:Int)=wF at *;clear au am hJ0;have bM:=za (zbb (c:=e1) (c':=D) aN.reads (zcZ aY.out));have av:=S.cell;go_upto_region 17 with (first
     |(go_at_call 119;refine bM.out.mono ?_;rintro e wG ⟨Z1,z1,y1,Z2,z2,y2,rfl,aO,aa⟩;have au:=(u.ext aa).cell;have am:=(u.ext aa).frozen))
    have O:=u.ext aa;have af:=S.ext aa;have i:Frm (fun b=>b=G+1) wG (((wG.setCell ⟨G+1,1,none⟩ f.al).setCell ⟨G+1,2,none⟩ (.slice Z1 z1 y1)).setCell ⟨G+1,3,none⟩ (.slice Z2 z2 y2)):=((dH wG _ 1 _).trans (dH _ _ 2 _)).trans (dH _ _ 3 _);have y:Blk (((wG.setCell ⟨G+1,1,none⟩ f.al).setCell ⟨G+1,2,none⟩ (.slice Z1 z1 y1)).setCell ⟨G+1,3,none⟩ (.slice Z2 z2 y2)) (G+1) 67 #[.int .i64 0,.int .i64 f.al,.slice Z1 z1 y1,.slice Z2 z2 y2,.string ⟨#[]⟩,.int .i64 ((j:Int)+1)]:=by
     simpa using ((O.ab 1 (.int .i64 f.al)).ab 2 (.slice Z1 z1 y1)).ab 3 (.slice Z2 z2 y2)
    have H:=af.frm i oM;have aP:=(aO.av O i dM).less (show w.heap.size<=wF.heap.size by have:=aj.size;have:=a.size;have:=hx0.size;omega);have ab:=(aj.trans aa).frm i (fun k hk e=>oM);clear au am av u S O af i aN aO bM;generalize ((wG.setCell ⟨G+1,1,none⟩ f.al).setCell ⟨G+1,2,none⟩ (.slice Z1 z1 y1)).setCell ⟨G+1,3,none⟩ (.slice Z2 z2 y2)=wH at *;have hxw:=hx0.trans (a.trans ab);have hb8:=b8.ext (a.trans ab);have hb9':=b9.ext (a.trans ab);obtain⟨f1,f2,f3⟩:=zhD (v:=⟨0,f,⟨#[]⟩,j+1⟩) (x:=f.al) (X:=Y) (k1:=q1) (d1:=e1) (X':=Y') (k1':=I) (d1':=D) hxw hb8 hb9' rfl rfl oM aP;have F1:=za (zdO.cast aK.out f1.out.drew);clear f1;simp only [iQ,Int.cast_ofNat_Int] at F1 f2 f3;have F2:=za f2;have F3:=za f3;clear f2 f3;have k8:=hb8.cell;have z8:=hb8.frozen;have k9:=hb9'.cell;have z9:=hb9'.frozen;have hne1:G+1≠Z:=oH a.size;have hne2:G+1+1≠Z:=oH a.size;have bF:∀ W,Frm (fun b=>b=Z) wH W->∀ q,W.cell? ⟨G+1,q,none⟩=#[Value.int .i64 0,.int .i64 f.al,.slice Z1 z1 y1,.slice Z2 z2 y2,.string ⟨#[]⟩,.int .i64 ((j:Int)+1)][q]?:=fun W hW=>(y.frm hW hne1).cell;have bG:∀ W,Frm (fun b=>b=Z) wH W->∀ q,W.cell? ⟨G+1+1,q,none⟩=#[Value.int .i64 f.al,.slice Y q1 e1,.slice Y' I D][q]?:=fun W hW=>(H.frm hW hne2).cell;have hS0:Frm (fun b=>b=Z) wH wH.drew:=⟨rfl,rfl,rfl,dG _,fun _ _ _=>rfl⟩;have hf8:=za (zid wH Z (.int .i64 0) (.int .i64 f.al) (.slice Z1 z1 y1) (.slice Z2 z2 y2) (.string ⟨#[]⟩) (.int .i64 ((j:Int)+1)));clear y H aP hb8 hb9' hxw hne1 hne2;go_wp2_with fail
    refine zbC (fun Y=>Frm (fun b=>b=Z) wH Y) [3] (zv.of [0,1,2,3]) kM kM kM kM kM (fun _ _ _ _ _ h=>h) hS0 ?_;refine zbP (v:=?_) rfl rfl rfl rfl (fun X hX=>?_) ?_
    rotate_left
    focus (go_simp<;>with_reducible rfl)
    refine pT ?_;refine zbP (v:=?_) rfl rfl rfl rfl (fun X hX=>?_) ?_
    rotate_left
    focus (go_simp<;>with_reducible rfl)
    refine pT ?_;refine ze fun K hK=>?_;go_simp;refine hK.out _ _ hf8.out.drew ?_;refine pT ?_;refine zb fun K hK=>?_;go_simp;refine hK.out _ _ ?_;refine zf ?_;go_wp2_with fail
    have cf2:=F2.out.cell;have cf3:=F3.out.cell;exact bodyPost_ret (v:=.tuple #[.agg #[(0:Int),f.al,.slice Z1 z1 y1,.slice Z2 z2 y2,.string ⟨#[]⟩,((j:Int)+1:Int)],.agg #[f.al,.slice Y q1 e1,.slice Y' I D]]) (by simp [results,Tryz.results97,go_sem,cf2,cf3]) rfl F1.out
   ·by_cases hJ1:J.2=1
    ·have aK:=za (show ag=⟨1,noA,zas [s,t] p,j+1⟩ by rw [← z.out,if_neg hJ0,if_pos hJ1]);have HP:=za (bO.out wE (hx0.trans (a.trans g)));have cS:=co wE g;have cT:=bI wE g;have cP:∀ (v:Array Value) (q:Nat),(wE.alloc (.cells v 38)).cell? ⟨w.heap.size+1+1,q,none⟩=_:=fun v q=>cn _ (g.trans ((cY wE).alloc _)) q;clear hJ0 z ad a0 aZ U;go_upto_region 20 with (first
      |(go_at_call 147;refine HP.out.mono (mQ fun wF aj=>?_);clear cS cT cP))
     have u:=l.ext aj;have S:=Q.ext aj;have cf:=g.trans aj;have au:=u.cell;have am:=u.frozen;clear HP l Q;go_upto_region 22 with fail
     have i:Frm (fun b=>b=G+1) wF ((wF.setCell ⟨G+1,0,none⟩ (1:Int)).setCell ⟨G+1,4,none⟩ (.string (zas [s,t] p))):=(dH wF _ 0 _).trans (dH _ _ 4 _);have y:Blk ((wF.setCell ⟨G+1,0,none⟩ (1:Int)).setCell ⟨G+1,4,none⟩ (.string (zas [s,t] p))) (G+1) 67 #[.int .i64 1,.int .i64 0,.slice none 0 0,.slice none 0 0,.string (zas [s,t] p),.int .i64 ((j:Int)+1)]:=by
      simpa using (u.ab 0 (.int .i64 1)).ab 4 (.string (zas [s,t] p))
     have H:=S.frm i oM;have ab:=cf.frm i (fun k hk e=>oM);clear au am u S i hJ1;generalize (wF.setCell ⟨G+1,0,none⟩ (1:Int)).setCell ⟨G+1,4,none⟩ (.string (zas [s,t] p))=wH at *;have hxw:=hx0.trans (a.trans ab);have hb8:=b8.ext (a.trans ab);have hb9':=b9.ext (a.trans ab);obtain⟨f1,f2,f3⟩:=zhD (v:=⟨1,noA,zas [s,t] p,j+1⟩) (A:=none) (n:=0) (c:=0) (A':=none) (n':=0) (c':=0) (x:=f.al) (X:=Y) (k1:=q1) (d1:=e1) (X':=Y') (k1':=I) (d1':=D) hxw hb8 hb9' rfl rfl oM (⟨⟨[],World.ownsRow_nil _ _ _ _,zD.nil _ _⟩,rfl,World.ownsRow_nil _ _ _ _,rfl⟩:zab wH w.heap.size none 0 0 none 0 0 noA);have F1:=za (zdO.cast aK.out f1.out.drew);clear f1;simp only [noA,iQ,Int.cast_ofNat_Int] at F1 f2 f3;have F2:=za f2;have F3:=za f3;clear f2 f3;have k8:=hb8.cell;have z8:=hb8.frozen;have k9:=hb9'.cell;have z9:=hb9'.frozen;have hne1:G+1≠Z:=oH a.size;have hne2:G+1+1≠Z:=oH a.size;have bF:∀ W,Frm (fun b=>b=Z) wH W->∀ q,W.cell? ⟨G+1,q,none⟩=#[Value.int .i64 1,.int .i64 0,.slice none 0 0,.slice none 0 0,.string (zas [s,t] p),.int .i64 ((j:Int)+1)][q]?:=fun W hW=>(y.frm hW hne1).cell;have bG:∀ W,Frm (fun b=>b=Z) wH W->∀ q,W.cell? ⟨G+1+1,q,none⟩=#[Value.int .i64 f.al,.slice Y q1 e1,.slice Y' I D][q]?:=fun W hW=>(H.frm hW hne2).cell;have hS0:Frm (fun b=>b=Z) wH wH.drew:=⟨rfl,rfl,rfl,dG _,fun _ _ _=>rfl⟩;have hf8:=za (zid wH Z (.int .i64 1) (.int .i64 0) (.slice none 0 0) (.slice none 0 0) (.string (zas [s,t] p)) (.int .i64 ((j:Int)+1)));clear y H hb8 hb9' hxw hne1 hne2;go_wp2_with fail
     refine zbC (fun Y=>Frm (fun b=>b=Z) wH Y) [3] (zv.of [0,1,2,3]) kM kM kM kM kM (fun _ _ _ _ _ h=>h) hS0 ?_;refine zbP (v:=?_) rfl rfl rfl rfl (fun X hX=>?_) ?_
     rotate_left
     focus (go_simp<;>with_reducible rfl)
     refine pT ?_;refine zbP (v:=?_) rfl rfl rfl rfl (fun X hX=>?_) ?_
     rotate_left
     focus (go_simp<;>with_reducible rfl)
     refine pT ?_;refine ze fun K hK=>?_;go_simp;refine hK.out _ _ hf8.out.drew ?_;refine pT ?_;refine zb fun K hK=>?_;go_simp;refine hK.out _ _ ?_;refine zf ?_;go_wp2_with fail
     have cf2:=F2.out.cell;have cf3:=F3.out.cell;exact bodyPost_ret (v:=.tuple #[.agg #[(1:Int),(0:Int),(),(),.string (zas [s,t] p),((j:Int)+1:Int)],.agg #[f.al,.slice Y q1 e1,.slice Y' I D]]) (by simp [results,Tryz.results97,go_sem,cf2,cf3]) rfl F1.out
    ·have e0:(J.2==0)=false:=by simpa using hJ0
     have e2:(J.2==1)=false:=by simpa using hJ1
     have bA:=za (show runT s t p L (K - (j+1)) (j+1) (zbx L (zy s p L) rs cs J.1)=ag by
      have:=z.out;rw [if_neg hJ0,if_neg hJ1] at this;exact this)
     clear hJ0 hJ1 z;have bq:=bJ wE g;have bC:=ad.cell;have bp:=za (show TabAt wE R nr C nc rs cs from ⟨_,_,_,_,eF a0,eF aZ⟩);go_upto_region 24 with (first
      |(go_at_call 77;refine (ct.out _ _ _ _ _ _ rs cs J.1 _ g bp.out bs.out ai ah bd.out (oH bW.out)).mono ?_;intro e wF hret;obtain⟨aj,aU,aT,R2,aG,C2,aF,rfl,b4,b0,bt⟩:=hret.fill (w0:=w2) g.size;clear hret))
     have b7:=za (zfS.ay bs.out J.1);generalize zbx L (zy s p L) rs cs J.1=oL at *;generalize U0:wF.alloc _=wG at *;have aa:=Ext.al_ U0;have bR:=dZ U0;clear U0;have az:=aj.trans aa;have M:=ad.ext az;have O:=l.ext az;have af:=Q.ext az;have cg:=g.trans az;have cF:=bR.cell;have ch:=M.cell;have bU:=M.frozen;have i:Frm (fun b=>b=G) wG ((wG.setCell G (.slice R2 aU aG)).setCell ⟨G,1,none⟩ (.slice C2 aT aF)):=(dH wG _ 0 _).trans (dH _ _ 1 _);have bX:TabM w2 ((wG.setCell G (.slice R2 aU aG)).setCell ⟨G,1,none⟩ (.slice C2 aT aF)) G oL:=
      ⟨aU,aT,R2,aG,C2,aF,by simpa using (M.ab 0 (.slice R2 aU aG)).ab 1 (.slice C2 aT aF),b4,b0,fun rs' cs' e=>by
       have h1:=zh (bt rs' cs' e).1 aa;have h2:=zh (bt rs' cs' e).2 aa;exact⟨zg h1 i (fun b hv e'=>zr h1 M dM hv e'),zg h2 i (fun b hv e'=>zr h2 M dM hv e')⟩⟩
     have y:=O.frm i oM;have H:=af.frm i oM;have ab:=cg.frm i (fun k hk e=>oM);clear bq bC ad l Q a0 aZ U M O af i bR bt;go_upto_region 25 with fail
     generalize (wG.setCell G (.slice R2 aU aG)).setCell ⟨G,1,none⟩ (.slice C2 aT aF)=wH at *;clear cF ch bU;have b5:((j:Int)+1)=((j+1:Nat):Int):=oM;rw [b5] at y;have bz:=za (roAt_blk y);clear b5;go_wp2_with fail
     go_roundw
     case rel=>exact⟨oL,j+1,f.al,Y,q1,e1,Y',I,D,rfl,oM,b7,bA,bX,y,H,ab⟩
     case measure=>have h1:=b6.out;have h2:=bz.out;omega
  ·have aK:=za (show ag=⟨2,noA,⟨#[]⟩,j⟩ by
    rw [← be.out];exact runT_end hgo)
   have hb8:=(b8.ext (a.trans aS));have hb9':=(b9.ext (a.trans aS));have hon:zab wr w.heap.size none 0 0 none 0 0 noA:=⟨⟨[],World.ownsRow_nil _ _ _ _,zD.nil _ _⟩,rfl,World.ownsRow_nil _ _ _ _,rfl⟩;have hflag:(o.isSome&&decide ((j:Int)<(K:Int)))=false:=by
    rw [Bool.eq_false_iff];intro h;simp only [dJ,decide_eq_true_eq] at h;exact hgo ⟨h.1,oM⟩
   have hxw:=hx0.trans (a.trans aS);have hd:Ext wr wr.drew:=(cY wr).drew;obtain⟨f1,f2,f3⟩:=zhD (v:=⟨2,noA,⟨#[]⟩,j⟩) (x:=x) (X:=X) (k1:=k1) (d1:=d1) (X':=X') (k1':=k1') (d1':=d1') hxw hb8 hb9' rfl rfl oM hon;have F1:=za (zdO.cast aK.out f1.out.drew);clear f1;simp only [noA] at F1 f2 f3;have F2:=za f2;have F3:=za f3;clear f2 f3;have k8:=hb8.cell;have z8:=hb8.frozen;have k9:=hb9'.cell;have z9:=hb9'.frozen;have dm:=hx0.size;have hne1:G+1≠Z:=oH a.size;have hne2:G+1+1≠Z:=oH a.size;have bF:∀ W,Frm (fun b=>b=Z) wr W->∀ q,W.cell? ⟨G+1,q,none⟩=#[Value.int .i64 2,.int .i64 0,.slice none 0 0,.slice none 0 0,.string ⟨#[]⟩,.int .i64 j][q]?:=fun W hW=>(E.frm hW hne1).cell;have bG:∀ W,Frm (fun b=>b=Z) wr W->∀ q,W.cell? ⟨G+1+1,q,none⟩=#[Value.int .i64 x,.slice X k1 d1,.slice X' k1' d1'][q]?:=fun W hW=>(ae.frm hW hne2).cell;have hS0:Frm (fun b=>b=Z) wr wr.drew:=⟨rfl,rfl,rfl,dG _,fun _ _ _=>rfl⟩;have hf8:=za (zid wr (Z) (.int .i64 2) (.int .i64 0) (.slice none 0 0) (.slice none 0 0) (.string ⟨#[]⟩) (.int .i64 j));cases ho:o.isSome
   ·have Ho:=za ho;rw [ho] at hflag;exact yD13a3
   ·have cV:¬ ((j:Int)<(K:Int)):=fun h=>hgo ⟨ho,oM⟩;have Ho:=za ho;exact yD13a3
end
def zhb (w:World) (v:Vd) (e:Ending) (w':World):Prop:=
 ∃ (A:Option Addr) (n c:Nat) (A':Option Addr) (n' c':Nat),
  e=.returned (.agg #[v.code,v.asm.al,.slice A n c,.slice A' n' c',v.tr,v.ro])∧zab w' w.heap.size A n c A' n' c' v.asm∧Ext w w'
section
variable {w:World} {lo hi n c lo1 hi1 m d m' d' lo2 hi2 k c2:Nat} {A B B' C:Option Addr} {s t:Sys} {p:Aut}
theorem zcu {v:Vd} (HR:Hid (∀ W,Ext w W->Calls Tryz.prog 97 #[.agg #[s.al,s.st,.slice A n c],.agg #[t.al,t.st,.slice C k c2],.agg #[p.al,.slice B m d,.slice B' m' d'],(12:Int)] W (zdO W v))) :
  Calls Tryz.prog 44 #[.agg #[s.al,s.st,.slice A n c],.agg #[t.al,t.st,.slice C k c2],.agg #[p.al,.slice B m d,.slice B' m' d']] w
   (zhb w v):=by
 obtain⟨H,U0⟩:∃ x,Hid ((((w.alloc (.cells #[s.al,s.st,.slice A n c] 38)).alloc (.cells #[t.al,t.st,.slice C k c2] 38)).alloc (.cells #[p.al,.slice B m d,.slice B' m' d'] 31)).alloc (.cells #[(0:Int),(0:Int),(),(),.string ⟨#[]⟩,(0:Int)] 67)=x):=⟨_,za rfl⟩;have hx0:Ext w H:=(((((cY _).alloc _).alloc _).alloc _).alloc _).trans (eZ U0.out);obtain⟨b1,I,J⟩:=zL (((cY _).alloc _).trans (eZ U0.out));have G:=dZ U0.out;simp only [World.size_alloc] at G
 go_enter Tryz.func44,Tryz.ntmps44
 go_upto_region 1 with fail
 rw [U0.out] at *;have c1:=b1.cell;have y:=I.cell;have M:=J.cell;go_upto_region 2 with (first
  |(go_at_call 97;refine (HR.out H hx0).mono ?_;rintro e F ⟨b,h,k1,f,i,g,x,X,O,d1,X',E,d1',rfl,ho,hx1⟩;clear c1 y M))
 have L:=(dX F 67 #[v.code,v.asm.al,.slice b h k1,.slice f i g,v.tr,v.ro]).ext ((cY _).alloc (.cells #[x,.slice X O d1,.slice X' E d1'] 31));generalize U0:(F.alloc _).alloc _=w2 at *;have j:=((cY F).alloc (.cells #[v.code,v.asm.al,.slice b h k1,.slice f i g,v.tr,v.ro] 67)).trans (Ext.al_ U0);clear U0;have a:=G.ext (hx1.trans j);have S:=L.cell;have R:=a.cell;have Q:=a.frozen;have o:=ho.ext j;have D:=zid w2 (w.heap.size+1+1+1) (.int .i64 v.code) (.int .i64 v.asm.al) (.slice b h k1) (.slice f i g) (.string v.tr) (.int .i64 v.ro);have l:Blk ((((((w2.setCell ⟨w.heap.size+1+1+1,0,none⟩ v.code).setCell ⟨w.heap.size+1+1+1,1,none⟩ v.asm.al).setCell ⟨w.heap.size+1+1+1,2,none⟩ (.slice b h k1)).setCell ⟨w.heap.size+1+1+1,3,none⟩ (.slice f i g)).setCell ⟨w.heap.size+1+1+1,4,none⟩ v.tr).setCell ⟨w.heap.size+1+1+1,5,none⟩ v.ro) (w.heap.size+1+1+1) 67 #[.int .i64 v.code,.int .i64 v.asm.al,.slice b h k1,.slice f i g,.string v.tr,.int .i64 v.ro]:=by
  simpa using (((((a.ab 0 (.int .i64 v.code)).ab 1 (.int .i64 v.asm.al)).ab 2 (.slice b h k1)).ab 3 (.slice f i g)).ab 4 (.string v.tr)).ab 5 (.int .i64 v.ro)
 have q:=(o.av a D dM).less hx0.size;have u:=(hx0.trans (hx1.trans j)).frm D (fun k hk e=>oM);have r:=za (show zhb w v (.returned (.agg #[v.code,v.asm.al,.slice b h k1,.slice f i g,v.tr,v.ro])) _ from ⟨b,h,k1,f,i,g,rfl,q,u⟩);have z:=za l;clear a o ho q u D l;go_wp2_with fail
 have z:=z.out.cell;exact bodyPost_ret (v:=.agg #[v.code,v.asm.al,.slice b h k1,.slice f i g,v.tr,v.ro]) (by simp [results,Tryz.results44,go_sem,z]) rfl r.out
theorem zeO (hs:zP w lo hi A n s)(hp:zH w lo1 hi1 B m B' m' p)(ht:zP w lo2 hi2 C k t)(hif:iface s p t=(L:Int))(hn:n<=1000000)(hhi:hi<=w.heap.size) :
  Calls Tryz.prog 44 #[.agg #[s.al,s.st,.slice A n c],.agg #[t.al,t.st,.slice C k c2],.agg #[p.al,.slice B m d,.slice B' m' d']] w
   (zhb w (runT s t p L 12 0 ((zat L (zy s p L) [⟨#[]⟩] 11 [⟨#[]⟩]).map fun r=>(r,[⟨#[]⟩])))):=
 zcu (za (fun W (hW:Ext w W)=>spec_l12Run (K:=12) (hs.ext hW) (hp.ext hW) (ht.ext hW) hif hn (dO hhi hW.size) oM))
end
theorem runT_size (hL:L<64)(hst:zA [s,t]=true)(hp:zj p=true) (f:Nat):∀ (k:Nat) (o:Option (List ByteArray × List ByteArray)),zfS L (zy s p L) o->(runT s t p L f k o).asm.size<=1048576∧(runT s t p L f k o).tr.size<=4000:=by
 induction f with
 |zero=>exact fun k o _=>⟨by show noA.size<=_;decide,dI _⟩
 |succ f ih =>
  intro k o ho
  match o with
  |none=>exact⟨by show noA.size<=_;decide,dI _⟩
  |some (rs,cs) =>
   obtain⟨b,a⟩:=ho rs cs rfl;rw [runT];split
   ·exact⟨zcZ (zdh b a hL),dI _⟩
   ·split
    ·refine⟨by show noA.size<=_;decide,?_⟩;have h:=(zdi hst hp).2;have c:16 ^ [s,t].length*12=3072:=sM;show (zas [s,t] p).size<=4000;omega
    ·exact ih _ _ (zfS.ay b _)
theorem tot_cons (l:List Int) (r:List (List Int)):tot (l :: r)=l.length+tot r:=by simp [tot]
theorem zD.ab {rows:List Value} {ls:List (List Int)}   {l:List Int}(h:zD w base rows ls)(hr:rows[j]?=some (.slice A l.length c))
  (hf:Frm (blk A) w w') (zkh:w'.ownsRow base 3 1 (.slice A l.length c) l.length (ints l)):zD w' base rows (ls.set j l):=by
 have d:j<rows.length:=(List.getElem?_eq_some_iff.1 hr).1;refine⟨by simp [h.1],fun i row m hi hm=>?_,h.2.2⟩
 by_cases hij:i=j
 ·subst hij;rw [hr] at hi;obtain rfl:=Option.some.inj hi;rw [List.getElem?_set_self (by rw [← h.1];exact d)] at hm;obtain rfl:=Option.some.inj hm;exact zkh
 ·rw [List.getElem?_set_ne (fun e=>hij e.symm)] at hm;refine zg (h.2.1 i row m hi hm) hf (fun b hb hS=>?_);obtain⟨a,rfl,rfl⟩:=hS;exact h.2.2 i j row _ a.block hi hr hij hb rfl
theorem zaK (W:World) (Z:Nat) (u0 u1 u2 u3 u4:Value):Frm (fun k=>k=Z) W (((((W.setCell Z u0).setCell ⟨Z,1,none⟩ u1).setCell ⟨Z,2,none⟩ u2).setCell ⟨Z,3,none⟩ u3).setCell ⟨Z,4,none⟩ u4):=
 ((((dH W Z 0 u0).trans (dH _ Z 1 u1)).trans (dH _ Z 2 u2)).trans (dH _ Z 3 u3)).trans (dH _ Z 4 u4)
theorem zaJ {t:TypeId}(h:Blk w Z t cs)(hc:cs.size=5) (u0 u1 u2 u3 u4:Value):Blk (((((w.setCell Z u0).setCell ⟨Z,1,none⟩ u1).setCell ⟨Z,2,none⟩ u2).setCell ⟨Z,3,none⟩ u3).setCell ⟨Z,4,none⟩ u4) Z t #[u0,u1,u2,u3,u4]:=by
 obtain⟨l⟩:=cs
 match l,hc with
 |[a,b,c,d,e],_=>simpa using ((((h.ab 0 u0).ab 1 u1).ab 2 u2).ab 3 u3).ab 4 u4
def zcz (w:World) (hd:Bool) (a:Aut) (s:ByteArray) (b:Bool) (e:Ending) (w':World):Prop:=
 ∃ A n c A' n' c',e=.returned (.tuple #[.agg #[.bool hd,a.al,.slice A n c,.slice A' n' c',s],.bool b])∧zab w' w.heap.size A n c A' n' c' a∧Ext w w'
def aut0:Aut:=⟨0,[],[]⟩
theorem zjL (w:World) (base:Nat):zab w base none 0 0 none 0 0 aut0:=⟨⟨[],World.ownsRow_nil _ _ _ _,zD.nil _ _⟩,rfl,World.ownsRow_nil _ _ _ _,rfl⟩
def okC (cd:Int) (a:Aut) (s:ByteArray):Bool:=(decide (cd=0) || decide (cd=1))&&zI (decide (cd=0)) a s
theorem okC0 (a:Aut) (s:ByteArray):okC 0 a s=zI true a s:=by simp [okC]
theorem okC1 (a:Aut) (s:ByteArray):okC 1 a s=zI false a s:=by simp [okC]
def NewC (w W:World) (G:Nat) (hd:Bool) (a:Aut) (s:ByteArray) (B:Option Addr) (m d:Nat) (B':Option Addr) (m' d':Nat):Prop:=
 Blk W G 33 #[.bool hd,a.al,.slice B m d,.slice B' m' d',s]∧zab W w.heap.size B m d B' m' d' a∧Ext w W∧w.heap.size<=G
theorem zab.ar (h:zab w base A n c A' n' c' a)(hB:Blk w G 33 cs)(hf:Frm (fun k=>k=G) w w'):zab w' base A n c A' n' c' a:=by
 obtain⟨⟨d,f,g⟩,m,j,o⟩:=h;exact⟨⟨d,zg f hf (fun b hb e=>zr f hB dM hb e),g.frm hf (fun i row b hr hb e=>by
  obtain⟨l,_,ho⟩:=g.row hr;exact zr ho hB dM hb e)⟩,m,zg j hf (fun b hb e=>zr j hB dM hb e),o⟩
theorem yD13a2 {P:Prop}(h:P:=by
 rintro e w4 ⟨B,m,d,B',m',d',rfl,own4,hx4⟩;replace own4:=own4.less hx0.size;replace hx0:=hx0.trans hx4;refine hK.out _ _ hx0 ?_;refine pT ?_;refine uQ ?_;refine ze fun K hK=>?_;go_simp;have hx1:=(Ext.refl w4).alloc (.cells #[.bool false,(0:Int),(),(),.string ⟨#[]⟩] 33);have hG:=hx0.size;replace own4:=own4.ext hx1;replace hx0:=hx0.trans hx1;refine hK.out _ _ hx0 ?_;generalize U0:w4.alloc _=wg at *;have hb:=Ext.bl_ U0;clear U0;generalize w4.heap.size=G at *;refine pT ?_;refine uQ ?_;have cG:=hb.cell;have fG:=hb.frozen;refine zb fun K hK=>?_;go_simp;refine hK.out _ _ ?_;refine zf ?_;have hfl:=zaK wg G (.bool true) (.int .i64 a.al) (.slice B m d) (.slice B' m' d') (.string s);have zkk:NewC w2 (((((wg.setCell G (.bool true)).setCell ⟨G,1,none⟩ a.al).setCell ⟨G,2,none⟩ (.slice B m d)).setCell ⟨G,3,none⟩ (.slice B' m' d')).setCell ⟨G,4,none⟩ s) G true a s B m d B' m' d':=⟨zaJ hb rfl _ _ _ _ _,own4.ar hb hfl,hx0.frm hfl (fun k hk e=>oM),hG⟩;go_wp2_with fail
 go_meet;exact⟨G,_,_,_,_,_,_,rfl,zkk⟩
 ):P:=h
theorem yD13a4 {P:Prop}(h:P:=by
 rintro e w4 ⟨B,m,d,B',m',d',rfl,own4,hx4⟩;replace own4:=own4.less hx0.size;replace hb:=hb.ext hx4;replace hx0:=hx0.trans hx4;refine hK.out _ _ hx0 ?_;refine pT ?_;refine uQ ?_;have cG:=hb.cell;have fG:=hb.frozen;refine zb fun K hK=>?_;go_simp;refine hK.out _ _ ?_;refine zf ?_;have hfl:=zaK w4 G (.bool true) (.int .i64 a.al) (.slice B m d) (.slice B' m' d') (.string s);have zkk:NewC w2 (((((w4.setCell G (.bool true)).setCell ⟨G,1,none⟩ a.al).setCell ⟨G,2,none⟩ (.slice B m d)).setCell ⟨G,3,none⟩ (.slice B' m' d')).setCell ⟨G,4,none⟩ s) G true a s B m d B' m' d':=⟨zaJ hb rfl _ _ _ _ _,own4.ar hb hfl,hx0.frm hfl (fun k hk e=>oM),hG⟩;go_wp2_with fail
 go_meet;exact⟨G,_,_,_,_,_,_,rfl,zkk⟩
 ):P:=h
theorem zfe {s:ByteArray} (h:zH w lo hi A n A' n' a)(hs:a.size<=1048576)(hs9:s.size<=9223372036854775807)(hv:zI true a s=true) :
  Calls Tryz.prog 47 #[.agg #[(0:Int),a.al,.slice A n c,.slice A' n' c',s,ro]] w (zcz w true a s true):=by
 have r:=za hv;clear hv;have HS:=za (fun W (hW:Ext w W)=>h.ext hW);have x:=hs;clear h
 go_enter Tryz.func47,Tryz.ntmps47
 go_upto_region 3 with fail
 generalize U0:(w.alloc _).alloc _=w2 at *;obtain⟨hw2,b1,t⟩:=gO U0;have p:w.heap.size+2=w2.heap.size:=by rw [← U0];simp
 have k1:=b1.cell;clear U0;clear k1
 go_cut [4] (fun v wx=>∃ G B m d B' m' d',v=.pointer (some ⟨G,0,none⟩)∧NewC w2 wx G true a s B m d B' m' d')
 case first =>
  have c1:=fun W (hW:Ext w2 W)=>(b1.ext hW).cell;have hww:=cY w2;refine uR (fun X=>Ext w2 X) [10] (zv.app [0,1,2,3,4,6,7] (zv.two 5 (zv.of [8,9,10]) 9 (zv.of [5,8,10]))) ?_;refine uQ ?_;have hx0:Ext w2 w2.drew:=hww.drew;generalize w2.drew=wd at *;refine zn (fun K hK=>?_) (fun K hK=>?_)
  ·go_simp;refine (zaW (HS.out _ (hw2.trans hx0)) hs).mono ?_;exact yD13a2
  ·go_simp;have hx1:=(cY wd).alloc (.cells #[.bool false,(0:Int),(),(),.string ⟨#[]⟩] 33);have hG:=hx0.size;replace hx0:=hx0.trans hx1;refine hK.out _ _ hx0 ?_;generalize U0:wd.alloc _=wg at *;have hb:=dZ U0;clear U0;generalize wd.heap.size=G at *;refine pT ?_;refine uQ ?_;refine ze fun K hK=>?_;go_simp;refine (zaW (HS.out _ (hw2.trans hx0)) hs).mono ?_;exact yD13a4
 case rest =>
  obtain⟨G,B,m,d,B',m',d',rfl,hb,own4,f,hG⟩:=hcut;have q:=hb.cell;have k1:=(b1.ext f).cell;go_wp2_with fail
  refine (zbu _ _ _ _ _ _ _ _ _ _ _ _ own4.reads hs9).mono ?_;rw [r.out];rintro e o ⟨rfl,i⟩;clear q k1;replace hb:=hb.ext i;replace own4:=own4.ext i;replace f:=f.trans i;have q:=hb.cell;have k1:=(b1.ext f).cell;have g:=t.ext f;have y:=g.cell;have z:=g.frozen;have hfl:=zaK o (w.heap.size+1) (.bool true) (.int .i64 a.al) (.slice B m d) (.slice B' m' d') (.string s);have j:=zaJ g rfl (.bool true) (.int .i64 a.al) (.slice B m d) (.slice B' m' d') (.string s);have l:=(hw2.trans f).frm hfl (fun k hk e=>oM);have zkk:=za (show zcz w true a s true (.returned (.tuple #[.agg #[.bool true,a.al,.slice B m d,.slice B' m' d',s],.bool true])) (((((o.setCell ⟨w.heap.size+1,0,none⟩ (.bool true)).setCell ⟨w.heap.size+1,1,none⟩ a.al).setCell ⟨w.heap.size+1,2,none⟩ (.slice B m d)).setCell ⟨w.heap.size+1,3,none⟩ (.slice B' m' d')).setCell ⟨w.heap.size+1,4,none⟩ s) from ⟨B,m,d,B',m',d',rfl,(own4.keep hfl (fun b h1 e=>oM)).less oM,l⟩);go_wp2_with fail
  generalize (((((o.setCell ⟨w.heap.size+1,0,none⟩ (.bool true)).setCell ⟨w.heap.size+1,1,none⟩ a.al).setCell ⟨w.heap.size+1,2,none⟩ (.slice B m d)).setCell ⟨w.heap.size+1,3,none⟩ (.slice B' m' d')).setCell ⟨w.heap.size+1,4,none⟩ s)=C at *;have u:=j.cell;exact bodyPost_ret (v:=.tuple #[.agg #[.bool true,a.al,.slice B m d,.slice B' m' d',s],.bool true]) (by simp [results,Tryz.results47,go_sem,u]) rfl zkk.out
theorem zfj {s:ByteArray} (h:zH w lo hi A n A' n' a)(hs:a.size<=1048576)(hs9:s.size<=9223372036854775807)(hv:zI true a s=true) :
  Calls Tryz.prog 58 #[.agg #[(0:Int),a.al,.slice A n c,.slice A' n' c',s,ro]] w (zcz w true a s true):=by
 have r:=za hv;clear hv;have HS:=za (fun W (hW:Ext w W)=>h.ext hW);have x:=hs;clear h
 go_enter Tryz.func58,Tryz.ntmps58
 go_upto_region 1 with fail
 generalize U0:(w.alloc _).alloc _=w2 at *;obtain⟨hw2,b1,t⟩:=gO U0;have p:w.heap.size+2=w2.heap.size:=by rw [← U0];simp
 clear U0
 go_cut [4] (fun v wx=>∃ G B m d B' m' d',v=.pointer (some ⟨G,0,none⟩)∧NewC w2 wx G true a s B m d B' m' d')
 case first =>
  have c1:=fun W (hW:Ext w2 W)=>(b1.ext hW).cell;have hww:=cY w2;refine uR (fun X=>Ext w2 X) [10] (zv.app [0,1,2,3,4,6,7] (zv.two 5 (zv.of [8,9,10]) 9 (zv.of [5,8,10]))) ?_;refine uQ ?_;have hx0:Ext w2 w2.drew:=hww.drew;generalize w2.drew=wd at *;refine zn (fun K hK=>?_) (fun K hK=>?_)
  ·go_simp;refine (zbb (HS.out _ (hw2.trans hx0)) hs).mono ?_;exact yD13a2
  ·go_simp;have hx1:=(cY wd).alloc (.cells #[.bool false,(0:Int),(),(),.string ⟨#[]⟩] 33);have hG:=hx0.size;replace hx0:=hx0.trans hx1;refine hK.out _ _ hx0 ?_;generalize U0:wd.alloc _=wg at *;have hb:=dZ U0;clear U0;generalize wd.heap.size=G at *;refine pT ?_;refine uQ ?_;refine ze fun K hK=>?_;go_simp;refine (zbb (HS.out _ (hw2.trans hx0)) hs).mono ?_;exact yD13a4
 case rest =>
  obtain⟨G,B,m,d,B',m',d',rfl,hb,own4,f,hG⟩:=hcut;have q:=hb.cell;have k1:=(b1.ext f).cell;go_wp2_with fail
  refine (zcO _ _ _ _ _ _ _ _ _ _ _ _ own4.reads hs9).mono ?_;rw [r.out];rintro e o ⟨rfl,i⟩;clear q k1;replace hb:=hb.ext i;replace own4:=own4.ext i;replace f:=f.trans i;have q:=hb.cell;have k1:=(b1.ext f).cell;have g:=t.ext f;have y:=g.cell;have z:=g.frozen;have hfl:=zaK o (w.heap.size+1) (.bool true) (.int .i64 a.al) (.slice B m d) (.slice B' m' d') (.string s);have j:=zaJ g rfl (.bool true) (.int .i64 a.al) (.slice B m d) (.slice B' m' d') (.string s);have l:=(hw2.trans f).frm hfl (fun k hk e=>oM);have zkk:=za (show zcz w true a s true (.returned (.tuple #[.agg #[.bool true,a.al,.slice B m d,.slice B' m' d',s],.bool true])) (((((o.setCell ⟨w.heap.size+1,0,none⟩ (.bool true)).setCell ⟨w.heap.size+1,1,none⟩ a.al).setCell ⟨w.heap.size+1,2,none⟩ (.slice B m d)).setCell ⟨w.heap.size+1,3,none⟩ (.slice B' m' d')).setCell ⟨w.heap.size+1,4,none⟩ s) from ⟨B,m,d,B',m',d',rfl,(own4.keep hfl (fun b h1 e=>oM)).less oM,l⟩);go_wp2_with fail
  generalize (((((o.setCell ⟨w.heap.size+1,0,none⟩ (.bool true)).setCell ⟨w.heap.size+1,1,none⟩ a.al).setCell ⟨w.heap.size+1,2,none⟩ (.slice B m d)).setCell ⟨w.heap.size+1,3,none⟩ (.slice B' m' d')).setCell ⟨w.heap.size+1,4,none⟩ s)=C at *;have u:=j.cell;exact bodyPost_ret (v:=.tuple #[.agg #[.bool true,a.al,.slice B m d,.slice B' m' d',s],.bool true]) (by simp [results,Tryz.results58,go_sem,u]) rfl zkk.out
theorem yD13b1 {P:Prop}(h:P:=by
 rintro e w4 ⟨B,m,d,B',m',d',rfl,own4,hx4⟩;replace own4:=own4.less hx0.size;replace hx0:=hx0.trans hx4;refine hK.out _ _ hx0 ?_;refine pT ?_;refine uQ ?_;refine ze fun K hK=>?_;go_simp;have hx1:=(Ext.refl w4).alloc (.cells #[.bool false,(0:Int),(),(),.string ⟨#[]⟩] 33);have hG:=hx0.size;replace own4:=own4.ext hx1;replace hx0:=hx0.trans hx1;refine hK.out _ _ hx0 ?_;generalize U0:w4.alloc _=wg at *;have hb:=Ext.bl_ U0;clear U0;generalize w4.heap.size=G at *;refine pT ?_;refine uQ ?_;have cG:=hb.cell;have fG:=hb.frozen;refine zb fun K hK=>?_;go_simp;refine hK.out _ _ ?_;refine zf ?_;have hfl:=zaK wg G (.bool false) (.int .i64 a.al) (.slice B m d) (.slice B' m' d') (.string s);have zkk:NewC w2 (((((wg.setCell G (.bool false)).setCell ⟨G,1,none⟩ a.al).setCell ⟨G,2,none⟩ (.slice B m d)).setCell ⟨G,3,none⟩ (.slice B' m' d')).setCell ⟨G,4,none⟩ s) G false a s B m d B' m' d':=⟨zaJ hb rfl _ _ _ _ _,own4.ar hb hfl,hx0.frm hfl (fun k hk e=>oM),hG⟩;go_wp2_with fail
 go_meet;exact⟨G,_,_,_,_,_,_,rfl,zkk⟩
 ):P:=h
theorem yD13b2 {P:Prop}(h:P:=by
 rintro e w4 ⟨B,m,d,B',m',d',rfl,own4,hx4⟩;replace own4:=own4.less hx0.size;replace hb:=hb.ext hx4;replace hx0:=hx0.trans hx4;refine hK.out _ _ hx0 ?_;refine pT ?_;refine uQ ?_;have cG:=hb.cell;have fG:=hb.frozen;refine zb fun K hK=>?_;go_simp;refine hK.out _ _ ?_;refine zf ?_;have hfl:=zaK w4 G (.bool false) (.int .i64 a.al) (.slice B m d) (.slice B' m' d') (.string s);have zkk:NewC w2 (((((w4.setCell G (.bool false)).setCell ⟨G,1,none⟩ a.al).setCell ⟨G,2,none⟩ (.slice B m d)).setCell ⟨G,3,none⟩ (.slice B' m' d')).setCell ⟨G,4,none⟩ s) G false a s B m d B' m' d':=⟨zaJ hb rfl _ _ _ _ _,own4.ar hb hfl,hx0.frm hfl (fun k hk e=>oM),hG⟩;go_wp2_with fail
 go_meet;exact⟨G,_,_,_,_,_,_,rfl,zkk⟩
 ):P:=h
theorem zff {s:ByteArray} (h:zH w lo hi A n A' n' a)(hs:a.size<=1048576)(hs9:s.size<=9223372036854775807)(hv:zI false a s=true) :
  Calls Tryz.prog 47 #[.agg #[(1:Int),a.al,.slice A n c,.slice A' n' c',s,ro]] w (zcz w false a s true):=by
 have r:=za hv;clear hv;have HS:=za (fun W (hW:Ext w W)=>h.ext hW);have x:=hs;clear h
 go_enter Tryz.func47,Tryz.ntmps47
 go_upto_region 3 with fail
 generalize U0:(w.alloc _).alloc _=w2 at *;obtain⟨hw2,b1,t⟩:=gO U0;have p:w.heap.size+2=w2.heap.size:=by rw [← U0];simp
 have k1:=b1.cell;clear U0;clear k1
 go_cut [4] (fun v wx=>∃ G B m d B' m' d',v=.pointer (some ⟨G,0,none⟩)∧NewC w2 wx G false a s B m d B' m' d')
 case first =>
  have c1:=fun W (hW:Ext w2 W)=>(b1.ext hW).cell;have hww:=cY w2;refine uR (fun X=>Ext w2 X) [10] (zv.app [0,1,2,3,4,6,7] (zv.two 5 (zv.of [8,9,10]) 9 (zv.of [5,8,10]))) ?_;refine uQ ?_;have hx0:Ext w2 w2.drew:=hww.drew;generalize w2.drew=wd at *;refine zn (fun K hK=>?_) (fun K hK=>?_)
  ·go_simp;refine (zaW (HS.out _ (hw2.trans hx0)) hs).mono ?_;exact yD13b1
  ·go_simp;have hx1:=(cY wd).alloc (.cells #[.bool false,(0:Int),(),(),.string ⟨#[]⟩] 33);have hG:=hx0.size;replace hx0:=hx0.trans hx1;refine hK.out _ _ hx0 ?_;generalize U0:wd.alloc _=wg at *;have hb:=dZ U0;clear U0;generalize wd.heap.size=G at *;refine pT ?_;refine uQ ?_;refine ze fun K hK=>?_;go_simp;refine (zaW (HS.out _ (hw2.trans hx0)) hs).mono ?_;exact yD13b2
 case rest =>
  obtain⟨G,B,m,d,B',m',d',rfl,hb,own4,f,hG⟩:=hcut;have q:=hb.cell;have k1:=(b1.ext f).cell;go_wp2_with fail
  refine (zbu _ _ _ _ _ _ _ _ _ _ _ _ own4.reads hs9).mono ?_;rw [r.out];rintro e o ⟨rfl,i⟩;clear q k1;replace hb:=hb.ext i;replace own4:=own4.ext i;replace f:=f.trans i;have q:=hb.cell;have k1:=(b1.ext f).cell;have g:=t.ext f;have y:=g.cell;have z:=g.frozen;have hfl:=zaK o (w.heap.size+1) (.bool false) (.int .i64 a.al) (.slice B m d) (.slice B' m' d') (.string s);have j:=zaJ g rfl (.bool false) (.int .i64 a.al) (.slice B m d) (.slice B' m' d') (.string s);have l:=(hw2.trans f).frm hfl (fun k hk e=>oM);have zkk:=za (show zcz w false a s true (.returned (.tuple #[.agg #[.bool false,a.al,.slice B m d,.slice B' m' d',s],.bool true])) (((((o.setCell ⟨w.heap.size+1,0,none⟩ (.bool false)).setCell ⟨w.heap.size+1,1,none⟩ a.al).setCell ⟨w.heap.size+1,2,none⟩ (.slice B m d)).setCell ⟨w.heap.size+1,3,none⟩ (.slice B' m' d')).setCell ⟨w.heap.size+1,4,none⟩ s) from ⟨B,m,d,B',m',d',rfl,(own4.keep hfl (fun b h1 e=>oM)).less oM,l⟩);go_wp2_with fail
  generalize (((((o.setCell ⟨w.heap.size+1,0,none⟩ (.bool false)).setCell ⟨w.heap.size+1,1,none⟩ a.al).setCell ⟨w.heap.size+1,2,none⟩ (.slice B m d)).setCell ⟨w.heap.size+1,3,none⟩ (.slice B' m' d')).setCell ⟨w.heap.size+1,4,none⟩ s)=C at *;have u:=j.cell;exact bodyPost_ret (v:=.tuple #[.agg #[.bool false,a.al,.slice B m d,.slice B' m' d',s],.bool true]) (by simp [results,Tryz.results47,go_sem,u]) rfl zkk.out
theorem yD13a1 {P:Prop}(h:P:=by
 have c1:=fun W (hW:Ext w2 W)=>(b1.ext hW).cell;have hww:=Ext.refl w2;refine uR (fun X=>Ext w2 X) [10] (zv.app [0,1,2,3,4,6,7] (zv.two 5 (zv.of [8,9,10]) 9 (zv.of [5,8,10]))) ?_;refine uQ ?_;have hx0:Ext w2 w2.drew:=hww.drew;generalize w2.drew=wd at *;refine zn (fun K hK=>?_) (fun K hK=>?_)
 ·go_simp;refine (zbb (HS.out _ (hw2.trans hx0)) hs).mono ?_;exact yD13b1
 ·go_simp;have hx1:=(Ext.refl wd).alloc (.cells #[.bool false,(0:Int),(),(),.string ⟨#[]⟩] 33);have hG:=hx0.size;replace hx0:=hx0.trans hx1;refine hK.out _ _ hx0 ?_;generalize U0:wd.alloc _=wg at *;have hb:=Ext.bl_ U0;clear U0;generalize wd.heap.size=G at *;refine pT ?_;refine uQ ?_;refine ze fun K hK=>?_;go_simp;refine (zbb (HS.out _ (hw2.trans hx0)) hs).mono ?_;exact yD13b2
 ):P:=h
theorem zfk {s:ByteArray} (h:zH w lo hi A n A' n' a)(hs:a.size<=1048576)(hs9:s.size<=9223372036854775807)(hv:zI false a s=true) :
  Calls Tryz.prog 58 #[.agg #[(1:Int),a.al,.slice A n c,.slice A' n' c',s,ro]] w (zcz w false a s true):=by
 have r:=za hv;clear hv;have HS:=za (fun W (hW:Ext w W)=>h.ext hW);have x:=hs;clear h
 go_enter Tryz.func58,Tryz.ntmps58
 go_upto_region 1 with fail
 generalize U0:(w.alloc _).alloc _=w2 at *;obtain⟨hw2,b1,t⟩:=gO U0;have p:w.heap.size+2=w2.heap.size:=by rw [← U0];simp
 clear U0
 go_cut [4] (fun v wx=>∃ G B m d B' m' d',v=.pointer (some ⟨G,0,none⟩)∧NewC w2 wx G false a s B m d B' m' d')
 case first =>
  exact yD13a1
 case rest =>
  obtain⟨G,B,m,d,B',m',d',rfl,hb,own4,f,hG⟩:=hcut;have q:=hb.cell;have k1:=(b1.ext f).cell;go_wp2_with fail
  refine (zcO _ _ _ _ _ _ _ _ _ _ _ _ own4.reads hs9).mono ?_;rw [r.out];rintro e o ⟨rfl,i⟩;clear q k1;replace hb:=hb.ext i;replace own4:=own4.ext i;replace f:=f.trans i;have q:=hb.cell;have k1:=(b1.ext f).cell;have g:=t.ext f;have y:=g.cell;have z:=g.frozen;have hfl:=zaK o (w.heap.size+1) (.bool false) (.int .i64 a.al) (.slice B m d) (.slice B' m' d') (.string s);have j:=zaJ g rfl (.bool false) (.int .i64 a.al) (.slice B m d) (.slice B' m' d') (.string s);have l:=(hw2.trans f).frm hfl (fun k hk e=>oM);have zkk:=za (show zcz w false a s true (.returned (.tuple #[.agg #[.bool false,a.al,.slice B m d,.slice B' m' d',s],.bool true])) (((((o.setCell ⟨w.heap.size+1,0,none⟩ (.bool false)).setCell ⟨w.heap.size+1,1,none⟩ a.al).setCell ⟨w.heap.size+1,2,none⟩ (.slice B m d)).setCell ⟨w.heap.size+1,3,none⟩ (.slice B' m' d')).setCell ⟨w.heap.size+1,4,none⟩ s) from ⟨B,m,d,B',m',d',rfl,(own4.keep hfl (fun b h1 e=>oM)).less oM,l⟩);go_wp2_with fail
  generalize (((((o.setCell ⟨w.heap.size+1,0,none⟩ (.bool false)).setCell ⟨w.heap.size+1,1,none⟩ a.al).setCell ⟨w.heap.size+1,2,none⟩ (.slice B m d)).setCell ⟨w.heap.size+1,3,none⟩ (.slice B' m' d')).setCell ⟨w.heap.size+1,4,none⟩ s)=C at *;have u:=j.cell;exact bodyPost_ret (v:=.tuple #[.agg #[.bool false,a.al,.slice B m d,.slice B' m' d',s],.bool true]) (by simp [results,Tryz.results58,go_sem,u]) rfl zkk.out
theorem zfB {s:ByteArray} (h:zH w lo hi A n A' n' a)(hs:a.size<=1048576)(h0:cd≠0)(h1:cd≠1) :
  Calls Tryz.prog 47 #[.agg #[cd,a.al,.slice A n c,.slice A' n' c',s,ro]] w (zcz w false aut0 ⟨#[]⟩ false):=by
 have l:(cd==0)=false:=by simpa using h0
 have m:(cd != 0)=true:=by simpa using h0
 have o:(cd != 1)=true:=by simpa using h1
 clear h0 h1;have HS:=za (fun W (hW:Ext w W)=>h.ext hW);have p:=hs;clear h
 go_enter Tryz.func47,Tryz.ntmps47
 go_upto_region 1 with fail
 generalize U0:(w.alloc _).alloc _=w2 at *;obtain⟨hw2,b1,i⟩:=gO U0;have g:w.heap.size+2=w2.heap.size:=by rw [← U0];simp
 clear U0;have k1:=b1.cell;have b:=i;have q:=b.cell;have r:=b.frozen;have hfl:=zaK w2 (w.heap.size+1) (.bool false) (.int .i64 0) (.slice none 0 0) (.slice none 0 0) (.string ⟨#[]⟩);have d:=zaJ b rfl (.bool false) (.int .i64 0) (.slice none 0 0) (.slice none 0 0) (.string ⟨#[]⟩);have f:=hw2.frm hfl (fun k hk e=>oM);have zkk:=za (show zcz w false aut0 ⟨#[]⟩ false (.returned (.tuple #[.agg #[.bool false,(0:Int),(),(),.string ⟨#[]⟩],.bool false])) (((((w2.setCell ⟨w.heap.size+1,0,none⟩ (.bool false)).setCell ⟨w.heap.size+1,1,none⟩ (0:Int)).setCell ⟨w.heap.size+1,2,none⟩ ()).setCell ⟨w.heap.size+1,3,none⟩ ()).setCell ⟨w.heap.size+1,4,none⟩ (.string ⟨#[]⟩)) from ⟨none,0,0,none,0,0,rfl,zjL _ _,f⟩);go_wp2_with fail
 generalize (((((w2.setCell ⟨w.heap.size+1,0,none⟩ (.bool false)).setCell ⟨w.heap.size+1,1,none⟩ (0:Int)).setCell ⟨w.heap.size+1,2,none⟩ ()).setCell ⟨w.heap.size+1,3,none⟩ ()).setCell ⟨w.heap.size+1,4,none⟩ (.string ⟨#[]⟩))=t at *;have j:=d.cell;exact bodyPost_ret (v:=.tuple #[.agg #[.bool false,(0:Int),(),(),.string ⟨#[]⟩],.bool false]) (by simp [results,Tryz.results47,go_sem,j]) rfl zkk.out
theorem zfH {s:ByteArray} (h:zH w lo hi A n A' n' a)(hs:a.size<=1048576)(h0:cd≠0)(h1:cd≠1) :
  Calls Tryz.prog 58 #[.agg #[cd,a.al,.slice A n c,.slice A' n' c',s,ro]] w (zcz w false aut0 ⟨#[]⟩ false):=by
 have p:(cd==0)=false:=by simpa using h0
 have q:(cd != 0)=true:=by simpa using h0
 have r:(cd != 1)=true:=by simpa using h1
 clear h0 h1;have HS:=za (fun W (hW:Ext w W)=>h.ext hW);have t:=hs;clear h
 go_enter Tryz.func58,Tryz.ntmps58
 go_upto_region 1 with fail
 generalize U0:(w.alloc _).alloc _=w2 at *;obtain⟨hw2,b1,l⟩:=gO U0;have j:w.heap.size+2=w2.heap.size:=by rw [← U0];simp
 clear U0
 go_cut [4] (fun v wx=>∃ G B m d B' m' d',v=.pointer (some ⟨G,0,none⟩)∧NewC w2 wx G false a s B m d B' m' d')
 case first =>
  exact yD13a1
 case rest =>
  obtain⟨G,B,m,d,B',m',d',rfl,hb,own4,f,hG⟩:=hcut;have k1:=(b1.ext f).cell;have b:=l.ext f;have u:=b.cell;have x:=b.frozen;have hfl:=zaK wc (w.heap.size+1) (.bool false) (.int .i64 0) (.slice none 0 0) (.slice none 0 0) (.string ⟨#[]⟩);have g:=zaJ b rfl (.bool false) (.int .i64 0) (.slice none 0 0) (.slice none 0 0) (.string ⟨#[]⟩);have i:=(hw2.trans f).frm hfl (fun k hk e=>oM);have zkk:=za (show zcz w false aut0 ⟨#[]⟩ false (.returned (.tuple #[.agg #[.bool false,(0:Int),(),(),.string ⟨#[]⟩],.bool false])) (((((wc.setCell ⟨w.heap.size+1,0,none⟩ (.bool false)).setCell ⟨w.heap.size+1,1,none⟩ (0:Int)).setCell ⟨w.heap.size+1,2,none⟩ ()).setCell ⟨w.heap.size+1,3,none⟩ ()).setCell ⟨w.heap.size+1,4,none⟩ (.string ⟨#[]⟩)) from ⟨none,0,0,none,0,0,rfl,zjL _ _,i⟩);go_wp2_with fail
  generalize (((((wc.setCell ⟨w.heap.size+1,0,none⟩ (.bool false)).setCell ⟨w.heap.size+1,1,none⟩ (0:Int)).setCell ⟨w.heap.size+1,2,none⟩ ()).setCell ⟨w.heap.size+1,3,none⟩ ()).setCell ⟨w.heap.size+1,4,none⟩ (.string ⟨#[]⟩))=y at *;have o:=g.cell;exact bodyPost_ret (v:=.tuple #[.agg #[.bool false,(0:Int),(),(),.string ⟨#[]⟩],.bool false]) (by simp [results,Tryz.results58,go_sem,o]) rfl zkk.out
def hdX (cd:Int) (a:Aut) (s:ByteArray):Bool:=okC cd a s&&decide (cd=0)
def zht (cd:Int) (a:Aut) (s:ByteArray):Aut:=if okC cd a s then a else aut0
def zhF (cd:Int) (a:Aut) (s:ByteArray):ByteArray:=if okC cd a s then s else ⟨#[]⟩
theorem zfA {s:ByteArray} (h:zH w lo hi A n A' n' a)(hs:a.size<=1048576)(hs9:s.size<=9223372036854775807)(h0:cd=0->zI true a s=true)(h1:cd=1->zI false a s=true) :
  Calls Tryz.prog 47 #[.agg #[cd,a.al,.slice A n c,.slice A' n' c',s,ro]] w (zcz w (hdX cd a s) (zht cd a s) (zhF cd a s) (okC cd a s)):=by
 by_cases e0:cd=0
 ·subst e0;have:=zfe h hs hs9 (h0 rfl) (c:=c) (c':=c') (ro:=ro);simpa [hdX,zht,zhF,okC0,h0 rfl] using this
 ·by_cases e1:cd=1
  ·subst e1;have:=zff h hs hs9 (h1 rfl) (c:=c) (c':=c') (ro:=ro);simpa [hdX,zht,zhF,okC1,h1 rfl] using this
  ·have:=zfB h hs e0 e1 (s:=s) (c:=c) (c':=c') (ro:=ro);simpa [hdX,zht,zhF,okC,e0,e1] using this
theorem zfG {s:ByteArray} (h:zH w lo hi A n A' n' a)(hs:a.size<=1048576)(hs9:s.size<=9223372036854775807)(h0:cd=0->zI true a s=true)(h1:cd=1->zI false a s=true) :
  Calls Tryz.prog 58 #[.agg #[cd,a.al,.slice A n c,.slice A' n' c',s,ro]] w (zcz w (hdX cd a s) (zht cd a s) (zhF cd a s) (okC cd a s)):=by
 by_cases e0:cd=0
 ·subst e0;have:=zfj h hs hs9 (h0 rfl) (c:=c) (c':=c') (ro:=ro);simpa [hdX,zht,zhF,okC0,h0 rfl] using this
 ·by_cases e1:cd=1
  ·subst e1;have:=zfk h hs hs9 (h1 rfl) (c:=c) (c':=c') (ro:=ro);simpa [hdX,zht,zhF,okC1,h1 rfl] using this
  ·have:=zfH h hs e0 e1 (s:=s) (c:=c) (c':=c') (ro:=ro);simpa [hdX,zht,zhF,okC,e0,e1] using this
theorem zbt (s t:Sys) (p:Aut):iface s p t = -1∨∃ L:Nat,iface s p t=(L:Int):=by
 unfold iface;split
 ·exact .inr ⟨_,rfl⟩
 ·exact .inl rfl
section
variable {w:World} {lo hi n c lo1 hi1 m d m' d' lo2 hi2 k c2:Nat} {A B B' C:Option Addr} {s t:Sys} {p:Aut}
theorem spec_TaskOf0 (hs:zP w lo hi A n s)(hp:zH w lo1 hi1 B m B' m' p)(ht:zP w lo2 hi2 C k t)(hif:iface s p t = -1) :
  Calls Tryz.prog 174 #[.agg #[s.al,s.st,.slice A n c],.agg #[p.al,.slice B m d,.slice B' m' d'],.agg #[t.al,t.st,.slice C k c2]] w
   fun e w'=>e=.returned (.tuple #[.agg #[(0:Int),(0:Int),(),(0:Int),(),(),(0:Int)],.bool false])∧Ext w w':=by
 have b:=za (fun W (hW:Ext w W)=>zcV (c:=c) (d1:=d) (d1':=d') (c2:=c2) (hs.ext hW) (hp.ext hW) (ht.ext hW));rw [hif] at b;clear hs hp ht hif;obtain⟨j,U0⟩:∃ x,Hid ((((w.alloc (.cells #[s.al,s.st,.slice A n c] 38)).alloc (.cells #[p.al,.slice B m d,.slice B' m' d'] 31)).alloc (.cells #[t.al,t.st,.slice C k c2] 38)).alloc (.cells #[(0:Int),(0:Int),(),(0:Int),(),(),(0:Int)] 96)=x):=⟨_,za rfl⟩;have hx0:Ext w j:=(((((cY _).alloc _).alloc _).alloc _).alloc _).trans (eZ U0.out);obtain⟨b1,l,o⟩:=zL (((cY _).alloc _).trans (eZ U0.out));have i:=dZ U0.out;simp only [World.size_alloc] at i
 go_enter Tryz.func174,Tryz.ntmps174
 go_upto_region 1 with fail
 rw [U0.out] at *;have z:=b1.cells;have y:=l.cells;have D:=o.cells;have hww:=cY j;go_upto_region 3 with (first
  |(go_at_call 114;refine (b.out _ hx0).mono (mQ fun g a=>?_)))
 have h:=i.ext a;have F:=h.cell;have E:=h.frozen;have hxw:=hx0.trans a;have u:Frm (fun k=>k=w.heap.size+1+1+1) g (((((((g.setCell ⟨w.heap.size+1+1+1,0,none⟩ (0:Int)).setCell ⟨w.heap.size+1+1+1,1,none⟩ (0:Int)).setCell ⟨w.heap.size+1+1+1,2,none⟩ ()).setCell ⟨w.heap.size+1+1+1,3,none⟩ (0:Int)).setCell ⟨w.heap.size+1+1+1,4,none⟩ ()).setCell ⟨w.heap.size+1+1+1,5,none⟩ ()).setCell ⟨w.heap.size+1+1+1,6,none⟩ (0:Int)):=
  ((((((dH g _ 0 _).trans (dH _ _ 1 _)).trans (dH _ _ 2 _)).trans (dH _ _ 3 _)).trans (dH _ _ 4 _)).trans (dH _ _ 5 _)).trans (dH _ _ 6 _)
 have q:Blk (((((((g.setCell ⟨w.heap.size+1+1+1,0,none⟩ (0:Int)).setCell ⟨w.heap.size+1+1+1,1,none⟩ (0:Int)).setCell ⟨w.heap.size+1+1+1,2,none⟩ ()).setCell ⟨w.heap.size+1+1+1,3,none⟩ (0:Int)).setCell ⟨w.heap.size+1+1+1,4,none⟩ ()).setCell ⟨w.heap.size+1+1+1,5,none⟩ ()).setCell ⟨w.heap.size+1+1+1,6,none⟩ (0:Int)) (w.heap.size+1+1+1) 96 #[.int .i64 0,.int .i64 0,.slice none 0 0,.int .i64 0,.slice none 0 0,.slice none 0 0,.int .i64 0]:=by
  simpa using ((((((h.ab 0 (.int .i64 0)).ab 1 (.int .i64 0)).ab 2 (.slice none 0 0)).ab 3 (.int .i64 0)).ab 4 (.slice none 0 0)).ab 5 (.slice none 0 0)).ab 6 (.int .i64 0)
 have f:=za (hxw.frm u (fun k hk e=>oM));go_wp2_with fail
 generalize (((((((g.setCell ⟨w.heap.size+1+1+1,0,none⟩ (0:Int)).setCell ⟨w.heap.size+1+1+1,1,none⟩ (0:Int)).setCell ⟨w.heap.size+1+1+1,2,none⟩ ()).setCell ⟨w.heap.size+1+1+1,3,none⟩ (0:Int)).setCell ⟨w.heap.size+1+1+1,4,none⟩ ()).setCell ⟨w.heap.size+1+1+1,5,none⟩ ()).setCell ⟨w.heap.size+1+1+1,6,none⟩ (0:Int))=W at *;have r:=q.cell;exact bodyPost_ret (v:=.tuple #[.agg #[(0:Int),(0:Int),(),(0:Int),(),(),(0:Int)],.bool false]) (by simp [results,Tryz.results174,go_sem,r]) rfl ⟨rfl,f.out⟩
theorem zgS (hs:zP w lo hi A n s)(hp:zH w lo1 hi1 B m B' m' p)(ht:zP w lo2 hi2 C k t)(hif:iface s p t = -1) :
  Calls Tryz.prog 97 #[.agg #[s.al,s.st,.slice A n c],.agg #[t.al,t.st,.slice C k c2],.agg #[p.al,.slice B m d,.slice B' m' d'],K] w (zdO w ⟨3,noA,⟨#[]⟩,0⟩):=by
 have y:=za (fun W (hW:Ext w W)=>spec_TaskOf0 (c:=c) (d:=d) (d':=d') (c2:=c2) (hs.ext hW) (hp.ext hW) (ht.ext hW) hif);clear hs hp ht hif;obtain⟨o,U0⟩:∃ x,Hid (((((w.alloc (.cells #[s.al,s.st,.slice A n c] 38)).alloc (.cells #[t.al,t.st,.slice C k c2] 38)).alloc (.cells #[p.al,.slice B m d,.slice B' m' d'] 31)).alloc (.cells #[(0:Int),(0:Int),(),(),.string ⟨#[]⟩,(0:Int)] 67)).alloc (.cells #[(0:Int),(),()] 31)=x):=⟨_,za rfl⟩;have hx0:Ext w o:=((((((cY _).alloc _).alloc _).alloc _).alloc _).alloc _).trans (eZ U0.out);obtain⟨b1,q,r⟩:=zL ((((cY _).alloc _).alloc _).trans (eZ U0.out));have h:=(dX (((w.alloc (.cells #[s.al,s.st,.slice A n c] 38)).alloc (.cells #[t.al,t.st,.slice C k c2] 38)).alloc (.cells #[p.al,.slice B m d,.slice B' m' d'] 31)) 67 #[(0:Int),(0:Int),(),(),.string ⟨#[]⟩,(0:Int)]).ext ((cY _).alloc (.cells #[(0:Int),(),()] 31));have i:=dZ U0.out;simp only [World.size_alloc] at h i
 go_enter Tryz.func97,Tryz.ntmps97
 go_upto_region 1 with fail
 rw [U0.out] at *;have E:=b1.cells;have F:=q.cells;have D:=r.cells;have hww:=cY o;go_upto_region 2 with (first
  |(go_at_call 174;refine (y.out _ hx0).mono (mQ fun z b=>?_)))
 generalize U0:z.alloc _=w2 at *;have a:Ext o w2:=(b.alloc _).trans (eZ U0);clear U0;have g:=h.ext a;have J:=g.cell;have H:=g.frozen;have f:=i.ext a;have I:=f.cell;have G:=f.frozen;obtain⟨u,j,l⟩:=zhD (v:=⟨3,noA,⟨#[]⟩,0⟩) (A:=none) (n:=0) (c:=0) (A':=none) (n':=0) (c':=0) (x:=0) (X:=none) (k1:=0) (d1:=0) (X':=none) (k1':=0) (d1':=0) (hx0.trans a) g f rfl rfl oM (zjL _ _);dsimp only [noA] at u j l;have F2:=za j;have F3:=za l;clear j l g f b1 q r h i;go_wp2_with fail
 generalize (((((((((w2.setCell ⟨w.heap.size+1+1+1,0,none⟩ (3:Int)).setCell ⟨w.heap.size+1+1+1,1,none⟩ (0:Int)).setCell ⟨w.heap.size+1+1+1,2,none⟩ ()).setCell ⟨w.heap.size+1+1+1,3,none⟩ ()).setCell ⟨w.heap.size+1+1+1,4,none⟩ (.string ⟨#[]⟩)).setCell ⟨w.heap.size+1+1+1,5,none⟩ (0:Int)).setCell ⟨w.heap.size+1+1+1+1,0,none⟩ (0:Int)).setCell ⟨w.heap.size+1+1+1+1,1,none⟩ ()).setCell ⟨w.heap.size+1+1+1+1,2,none⟩ ())=W at *;have cf2:=F2.out.cell;have cf3:=F3.out.cell;exact bodyPost_ret (v:=.tuple #[.agg #[(3:Int),(0:Int),(),(),.string ⟨#[]⟩,(0:Int)],.agg #[(0:Int),(),()]]) (by simp [results,Tryz.results97,go_sem,cf2,cf3]) rfl u.out
end
noncomputable def vpT (s t:Sys) (p:Aut):Vd:=
 if iface s p t<0 then ⟨3,noA,⟨#[]⟩,0⟩ else runT s t p (iface s p t).toNat 12 0 ((zat (iface s p t).toNat (zy s p (iface s p t).toNat) [⟨#[]⟩] 11 [⟨#[]⟩]).map fun r=>(r,[⟨#[]⟩]))
theorem zeT (h:iface s p t = -1):vpT s t p=⟨3,noA,⟨#[]⟩,0⟩:=by unfold vpT;rw [if_pos oM]
theorem zgJ (h:iface s p t=(L:Int)):vpT s t p=runT s t p L 12 0 ((zat L (zy s p L) [⟨#[]⟩] 11 [⟨#[]⟩]).map fun r=>(r,[⟨#[]⟩])):=by
 have e:(iface s p t).toNat=L:=oM;unfold vpT;rw [if_neg oM,e]
theorem iface_lt (h:iface s p t=(L:Int)):L<64:=by
 obtain⟨c,b,a⟩:=zbm (show 0<=iface s p t by omega);rw [zeF c b a] at h;have d:=zR a;have f:((s.al.toNat|||p.al.toNat)&&&t.al.toNat)<=t.al.toNat:=Nat.and_le_right;omega
theorem zhH (s t:Sys) (p:Aut):(vpT s t p).asm.size<=1048576∧(vpT s t p).tr.size<=4000:=by
 rcases zbt s t p with h|⟨L,h⟩
 ·rw [zeT h];exact⟨by show noA.size<=_;decide,dI _⟩
 ·rw [zgJ h];obtain⟨b,a,c⟩:=zbm (show 0<=iface s p t by omega);exact runT_size (iface_lt h) (by simp [zA,b,c]) a 12 0 _ (zfS.new L _)
section
variable {w:World} {lo hi n c lo1 hi1 m d m' d' lo2 hi2 k c2:Nat} {A B B' C:Option Addr} {s t:Sys} {p:Aut}
theorem spec_VerifyPairA (hs:zP w lo hi A n s)(hp:zH w lo1 hi1 B m B' m' p)(ht:zP w lo2 hi2 C k t)(hn:n<=1000000)(hhi:hi<=w.heap.size) :
  Calls Tryz.prog 44 #[.agg #[s.al,s.st,.slice A n c],.agg #[t.al,t.st,.slice C k c2],.agg #[p.al,.slice B m d,.slice B' m' d']] w
   (zhb w (vpT s t p)):=by
 rcases zbt s t p with h|⟨L,h⟩
 ·rw [zeT h];exact zcu (za (fun W (hW:Ext w W)=>zgS (K:=12) (hs.ext hW) (hp.ext hW) (ht.ext hW) h))
 ·rw [zgJ h];exact zeO hs hp ht h hn hhi
end
theorem valid_len (h:zk s=true):s.edges.length<=1536:=by
 unfold zk at h;simp only [dJ,decide_eq_true_eq,eL] at h;obtain⟨-,⟨B,C⟩,f⟩:=h;have j:∀ (k:Nat) (e:Edg),s.edges[k]?=some e->(k:Int)<=(e.fr*6+e.le)*16+e.ta∧(e.fr*6+e.le)*16+e.ta<1536:=by
  intro k
  induction k with
  |zero =>
   intro e he;have:=f 0 (List.mem_range.2 (List.getElem?_eq_some_iff.1 he).1);unfold zbs at this;rw [he] at this;simp only [edgB,dJ,decide_eq_true_eq] at this;obtain⟨⟨⟨m,n⟩,⟨o,p⟩,r,c⟩,-⟩:=this;unfold hasB at c;simp only [dJ,decide_eq_true_eq] at c;omega
  |succ k ih =>
   intro e he;have hk:=(List.getElem?_eq_some_iff.1 he).1;have:=f (k+1) (List.mem_range.2 hk);unfold zbs at this;rw [he] at this;obtain⟨q,i⟩:∃ q,s.edges[k]?=some q:=⟨_,dF oM⟩;have t:=ih q i;rw [show k+1 - 1=k by omega,i] at this;simp only [edgB,dJ,fV,decide_eq_true_eq] at this;obtain⟨⟨⟨m,n⟩,⟨o,p⟩,r,c⟩,d⟩:=this;unfold hasB at c;simp only [dJ,decide_eq_true_eq] at c;have a:=d.resolve_left oM;have b:=f k (List.mem_range.2 oM);unfold zbs at b;rw [i] at b;simp only [edgB,dJ,fV,decide_eq_true_eq] at b;obtain⟨⟨⟨u,v⟩,⟨x,y⟩,z,l⟩,-⟩:=b;unfold hasB at l;simp only [dJ,decide_eq_true_eq] at l;unfold ltE at a
   split at a
   ·split at a
    ·rw [decide_eq_true_eq] at a;omega
    ·rw [decide_eq_true_eq] at a;omega
   ·rw [decide_eq_true_eq] at a;omega
 rcases Nat.lt_or_ge 1536 s.edges.length with a|g
 ·have:=j 1536 _ (dF a);omega
 ·exact g
theorem runT_tr (s t:Sys) (p:Aut) (L f:Nat):∀ (k:Nat) (o:Option (List ByteArray × List ByteArray)),(runT s t p L f k o).tr=⟨#[]⟩∨(runT s t p L f k o).tr=zas [s,t] p:=by
 induction f with
 |zero=>intro k o;exact .inl rfl
 |succ f ih =>
  intro k o;cases o with
  |none=>exact .inl rfl
  |some tab =>
   rw [runT];split
   ·exact .inl rfl
   ·split
    ·exact .inr rfl
    ·exact ih _ _
theorem vpT_word (hs:zk s=true)(ht:zk t=true)(hp:zj p=true):zbe (vpT s t p).tr=true:=by
 have a:zbe (⟨#[]⟩:ByteArray)=true:=by unfold zbe;rfl
 rcases zbt s t p with h|⟨L,h⟩
 ·rw [zeT h];exact a
 ·rw [zgJ h];rcases runT_tr s t p L 12 0 ((zat L (zy s p L) [⟨#[]⟩] 11 [⟨#[]⟩]).map fun r=>(r,[⟨#[]⟩])) with e|e
  ·rw [e];exact a
  ·rw [e];exact (zdi (ss:=[s,t]) (p:=p) (zgj sM sM (by simp [hs,ht])) hp).1
theorem wl_wstr (h:∀ l∈v,l<6):wl (wstr v)=v:=by
 unfold wl wstr lbs;rw [strOfNums_data,gS,gS]
 conv=>rhs;rw [← List.map_id v]
 refine List.map_congr_left fun l hl=>?_;have a:=h l hl;have b:∀ l,l<6->(UInt8.ofNat (97+l)).toNat - 97=l:=dM;have:=b l a;show (UInt8.ofNat (((97+l:Nat):Int)).toNat).toNat - 97=l;rw [e9];exact this
theorem vio_key (hss:∀ s∈ss,zk s=true)(ha:zj a=true)(hp:zj p=true) (hv:∀ l∈v,l<6) :
  (∃ x,zbE (zcn ss a p) [0] v x∧zbW a p x=true)↔zfO ss a p v:=by
 have g:∀ s∈ss,zeB (zeh s):=fun s hs=>zeJ (zcA (hss s hs));have r:∀ m∈[zbJ a,zbJ p],zeB m:=by simp;exact⟨zbK ha,zbK hp⟩
 have o:zM [zbJ a,zbJ p]=a.next.length*p.next.length:=by simp [zM,zaA,zbJ]
 have u:=(zl ha).2.1;have z:=(zl hp).2.1;have b:∀ x,zbW a p x=zbW a p (x % zM [zbJ a,zbJ p]):=by
  intro x;unfold zbW;rw [o,Nat.mod_mul_left_mod,fL,Nat.mod_mul_right_div_self,Nat.mod_mod]
 rw [zdy];have k:=ziV r hv (fun y=>zbW a p y=true) g;have n:(∃ x,zbE (pnx (zbo ss [a,p])) [0] v x∧zbW a p x=true)↔(∃ x,zbE (pnx (ss.map zeh++[zbJ a,zbJ p])) [0] v x∧zbW a p (x % zM [zbJ a,zbJ p])=true):=by
  constructor
  ·rintro ⟨x,h,c⟩;exact⟨x,h,by rw [← b];exact c⟩
  ·rintro ⟨x,h,c⟩;exact⟨x,h,by rw [b];exact c⟩
 rw [n,k];unfold zfO;refine and_congr_right fun _=>?_;have f:=zdM ha hv (q:=0) oM;have d:=zdM hp hv (q:=0) oM;have i:(zaQ a 0 v*p.next.length+zaQ p 0 v) / p.next.length % a.next.length=zaQ a 0 v:=by
  rw [fL,Nat.mul_add_div oM,Nat.div_eq_of_lt d,Nat.add_zero,iD f]
 have j:(zaQ a 0 v*p.next.length+zaQ p 0 v) % p.next.length=zaQ p 0 v:=by
  rw [fL,Nat.mul_add_mod,iD d]
 constructor
 ·rintro ⟨y,t,c⟩;rw [(zhw ha hp hv y).1 t] at c;unfold zbW at c;rw [i,j] at c;simpa using c
 ·intro c;refine⟨_,(zhw ha hp hv _).2 rfl,?_⟩;unfold zbW;rw [i,j];simpa using c
def FstW (A:Nat) (B:List Nat->Prop) (v:List Nat):Prop:=Over A v∧B v∧∀ u,Over A u->zcY u<zcY v->¬ B u
theorem FstW.congr {A:Nat} {B C:List Nat->Prop} (h:FstW A B v)(he:∀ u,Over A u->(B u↔C u)):FstW A C v:=
 ⟨h.1,(he v h.1).1 h.2.1,fun u hu hlt hc=>h.2.2 u hu hlt ((he u hu).2 hc)⟩
theorem vioW_cases (hss:∀ s∈ss,zk s=true)(ha:zj a=true)(hp:zj p=true) :
  (vioB ss a p=true∧∃ v,vioW ss a p=wstr v∧FstW (zG ss|||a.al.toNat) (zfO ss a p) v)∨(vioB ss a p=false∧vioW ss a p=wstr []∧∀ v,Over (zG ss|||a.al.toNat) v->¬ zfO ss a p v):=by
 have m:∀ l∈letters (zG ss|||a.al.toNat) 6,l<6:=fun l hl=>(zK.1 hl).1
 by_cases hl:Lost (zcn ss a p) [0] (zbW a p) (letters (zG ss|||a.al.toNat) 6)
 ·obtain⟨c,d⟩:=zgC hl;refine .inr ⟨by unfold vioB;rw [d];rfl,by unfold vioW;rw [c],fun v b hb=>?_⟩;obtain⟨x,g,f⟩:=(vio_key hss ha hp (fun l hl=>(b l hl).1)).2 hb;have:=hl v (zep.2 b) x g;rw [f] at this;cases this
 ·obtain⟨v,h⟩:=zfp hl;obtain⟨c,d⟩:=zfy m h;obtain⟨i,j,k⟩:=h;have b:=zep.1 i;refine .inl ⟨by unfold vioB;rw [d];rfl,v,by unfold vioW;rw [c],b,(vio_key hss ha hp (fun l hl=>(b l hl).1)).1 j,fun u hu hlt hb=>?_⟩;obtain⟨x,g,f⟩:=(vio_key hss ha hp (fun l hl=>(hu l hl).1)).2 hb;have:=k u (zep.2 hu) hlt x g;rw [f] at this;cases this
theorem breaks_free :zfO ss free p v↔(∀ s∈ss,zjo s v)∧zcy p (zaQ p 0 v)=false:=by
 unfold zfO;rw [runA_free];exact⟨fun h=>⟨h.1,h.2.2⟩,fun h=>⟨h.1,rfl,h.2⟩⟩
theorem ziR (h:zbG ss p=true):zA ss=true∧zj p=true:=by
 unfold zbG zcs at h;simp only [dJ] at h;exact h.1
theorem brok_first (h:zbG ss p=true):∃ v,zas ss p=wstr v∧FstW (zG ss) (fun v=>(∀ s∈ss,zjo s v)∧zcy p (zaQ p 0 v)=false) v:=by
 obtain⟨d,f⟩:=ziR h;obtain⟨-,i⟩:=zaP d;have hb:vioB ss free p=true:=by unfold zbG at h;simp only [dJ] at h;exact h.2
 have c:zG ss|||free.al.toNat=zG ss:=by rw [show free.al.toNat=0 from rfl,Nat.or_zero]
 rcases vioW_cases (a:=free) i zdW f with ⟨-,v,b,g⟩|⟨b,-,-⟩
 ·rw [c] at g;exact⟨v,by unfold zas zcs;rw [d,f];exact b,g.congr fun u _=>breaks_free⟩
 ·rw [hb] at b;cases b
theorem brok_top (h:zbG ss p=true):ziL ss (zas ss p)=true∧zdT p (zas ss p)=true:=by
 obtain⟨c,d⟩:=ziR h;obtain⟨v,g,f,⟨i,j⟩,-⟩:=brok_first h;have b:=(zdi c d).1;have a:wl (zas ss p)=v:=by rw [g];exact wl_wstr fun l hl=>(f l hl).1
 refine⟨top_iff.2 ⟨c,b,by rw [a];exact f,by rw [a];exact i⟩,?_⟩;unfold zdT;rw [d,b,a,j];rfl
theorem judge_zero (hs:zk s=true)(hp:zj p=true)(ht:zk t=true)(ha:zj a=true)(h:(zbv s p t L a).2=0):zbw s a p=true∧zaO [t] a=true:=by
 unfold zbv at h
 split at h
 ·cases h
 ·rename_i h1
  split at h
  ·split at h<;>cases h
  ·rename_i h2;refine⟨?_,?_⟩
   ·rw [zeS,show zcQ s a p=true by unfold zcQ;rw [hs,ha,hp];rfl];simpa using h1
   ·rw [zel,show zcs [t] a=true by unfold zcs;rw [ha,zgj sM sM (by simpa using ht)];rfl];simpa using h2
theorem zia {x:Sys} {ts:List Sys}   {w:ByteArray}(hL:L=(x.al.toNat|||p.al.toNat)&&&zG ts)(hpa:zA (x :: ts)=true)(hw:zbe w=true)(hu:Over (zG ts) (wl w))(hr:∀ t∈ts,zjo t (wl w))(hs:zy x p L (zaU w L)=false):zaO (x :: ts) p=false:=by
 refine zke hL hpa hu hr fun hsafe=>?_;have a:zy x p L (zaU w L)=true:=by
  rw [zeK];refine⟨zdH hw L,?_⟩;rw [zkg hw];exact hsafe
 rw [hs] at a;cases a
theorem judge_one (hL:L=(s.al.toNat|||p.al.toNat)&&&t.al.toNat)(hs:zk s=true)(ht:zk t=true)(h:(zbv s p t L a).2=1):zaO [s,t] p=false:=by
 unfold zbv at h
 split at h
 ·cases h
 ·split at h
  ·rename_i h2
   split at h
   ·cases h
   ·rename_i h3;obtain⟨k1,-⟩:=brok_top h2;obtain⟨-,b,c,d⟩:=top_iff.1 k1;exact zia (L:=L) (by rw [hL];simp [zG]) (zgj sM sM (by simp [hs,ht])) b c d (by simpa using h3)
  ·cases h
end Go.Proofs.YtcfchopfijalpaaGreatDoor
