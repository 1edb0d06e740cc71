/- spec.l4Chang -/
import Derived.Test.YtfcjhpodichpjaaGreatDoorQ03
set_option maxHeartbeats 4000000
set_option maxRecDepth 100000
namespace Go.Proofs.YtfcjhpodichpjaaGreatDoor
open Go Go.RowKit
open Blk renaming new->dT
open Ext renaming refl->cW
open Frm renaming setCell->dE
open List renaming getElem?_append_left->dK,getElem?_eq_getElem->dC,length_set->fF,mem_of_getElem?->cX,mem_or_eq_of_mem_set->eY
open Nat renaming le_refl->cY,zero_add->dS,zero_le->dD
open Reads renaming af->dY
variable {A A' A2 B B' C:Option Addr} {K L M R Z a b base c c' c2 d d' d2 k m m' n n' n2 p x:Nat} {S:Nat->Prop} {W w w' w1 w2:World} {cs:Array Value} {s s2:Sys} {t:TypeId} {v:Value}
theorem zfi {b:Aut} (h:Rd w R M)(hM:M<=900000000)(ho:zX w (R+1) A n c A' n' c' b)(hb:BdA L b)(hL:L<=100) :
  Calls Tryz.prog 73 #[.pointer (some R),.agg #[b.al,.slice A n c,.slice A' n' c']] w (zfT R (M+10) (BdA (L+1)) w):=by
 have hRl:=h.lt;have aC:=hb.size oM
 go_enter Tryz.func73,Tryz.ntmps73
 have p:=(cW w).alloc (.cells #[b.al,.slice A n c,.slice A' n' c'] 26);have b0:=dT w 26 #[b.al,.slice A n c,.slice A' n' c'];have a4:(w.alloc (.cells #[b.al,.slice A n c,.slice A' n' c'] 26)).heap.size=w.heap.size+1:=sM;have z:=p.alloc (.cells #[(0:Int),(),()] 26);have bz:=dT (w.alloc (.cells #[b.al,.slice A n c,.slice A' n' c'] 26)) 26 #[(0:Int),(),()];replace b0:=b0.ext ((cW _).alloc (.cells #[(0:Int),(),()] 26));rw [a4] at bz;have c0:=b0.cell;go_upto_region 1 with fail
 generalize (w.alloc _).alloc _=w1 at *;have aF:=bz.lt;go_wp2_with fail
 refine (zan (ho.ext z).reads aC).mono ?_;rintro e w2 ⟨B,m,d,B',m',d',rfl,zjc,ag⟩;obtain⟨o,a⟩:=zbv.of (R:=R) (M:=M) zjc (h.ext (z.trans ag)) ag.dr oM;have hG:=ag.size;have hm:m=b.next.length:=zjc.2.1;have a1:m'=b.acc.length:=zjc.2.2.2;have bH:m<=100:=oH hb.1;have Q:=za hm;have r:=za hb;subst a1;clear zjc ho hm hb aC;go_upto_region 2 with fail
 generalize w2.alloc _=w3 at *;generalize w2.heap.size=G at *;have V:=a.blk.cell
 by_cases hm0:m=0
 ·subst hm0;have aj:=a;rw [show (Value.slice B' b.acc.length d')=Value.slice B' b.acc.length d' from rfl] at aj;obtain⟨f1,f2⟩:=aj.fin (N:=M+10) (sh:=BdA (L+1)) z bz rfl hRl oM aF oM (r.out.more oM);have bz5:=bz.dr a.dr oM;have cZ:=bz5.cell;have fZ:=bz5.frozen;clear aj;go_wp2_with fail
  have cf:=f2.cell;exact bodyPost_ret (v:=.agg #[b.al,.slice B 0 d,.slice B' b.acc.length d']) (by simp [results,Tryz.results73,go_sem,cf]) rfl f1.out
 have a2:((m:Int)==0)=false:=by simp;omega
 go_wp2_with fail
 refine (zx a.rd oM).mono ?_;rintro e w4 ⟨k,rfl,au,-,aA,aq⟩;replace a:=a.drawn aq aA;have bD:k<m:=by have:=au oM;omega
 clear aq aA V au a2;go_wp2_with fail
 refine (zx a.rd oM).mono ?_;rintro e f ⟨y,rfl,-,-,aB,ar⟩;replace a:=a.drawn ar aB;clear ar aB;go_upto_block 0 with fail
 go_cut [] (fun wx=>∃ (v:Value) (o:List Value) (ls:List (List Int)) (vA:Value) (S:List Bool),zbv w1 wx R G (M+10) b.al v o ls vA S∧Hid (BdL (L+1) ls S))
 case first =>
  have aw:k<b.next.length:=oH Q.out;obtain⟨l,hl⟩:∃ l,b.next[k]?=some l:=⟨_,dC aw⟩;obtain⟨gN,rfl,bB,-⟩:=zac (show f.ownsRow w1.heap.size 74 1 (.slice B m d) m o from by have:=a.nx;rw [← Q.out] at this;exact this) oM;obtain⟨Ar,cr,hr,u,I⟩:=a.row hl Q.out;have bG:l.length<=100:=by have:=r.out.2.2 l (cX hl);omega
  have HL:=za hl;have HR:=za hr;have ad:=za (r.out.2.2 l (cX hl));have a5:=a.dr.size;clear hl hr aw;have U:y=0∨y=1∨y=2∨3<=y:=oM;rcases U with hy|hy|hy|hy
  ·subst hy;have aE:True:=trivial;have V:=fun W (hW:Ext f W)=>(a.blk.ext hW).cell
   by_cases hka:k<b.acc.length
   ·obtain⟨gA,rfl,aY,-⟩:=zac a.acc oM;obtain⟨x,hx⟩:∃ x,b.acc[k]?=some x:=⟨_,dC hka⟩;have F:f.cell? ⟨gA,k,none⟩=some (.bool x):=by rw [a.acc.cellAt k oM];simp [zaA,hx]
    have cA:∀ W,Ext f W->W.cell? ⟨gA,k,none⟩=some (.bool x):=fun W hW=>hW.aa F;have fA:∀ W,Ext f W->W.frozen? ⟨gA,k,none⟩=false:=fun W hW=>(zg a.acc hW).frozenAt k;have J:=(a.ext (cW f).drew).setAcc (i:=k) (x:=!x) rfl;have av:(k:Int)<(b.acc.length:Int):=oM;have O:=cW f;clear F hx;go_wp2_with fail
    refine tR (fun X=>Ext f X) [10] (Ord.of [0,1,2,3,4,5,6,7,8,9,10]) ?_;refine tQ ?_;refine zJ fun K hK=>?_;go_simp;refine hK.out _ _ ?_;refine zai ?_;go_wp2_with fail
    go_meet;exact⟨_,_,_,_,_,J.more oM,za ⟨oH r.out.1,by have:=r.out.2.1;rw [fF];omega,fun l' hl'=>by have:=r.out.2.2 l' hl';omega⟩⟩
   ·have av:¬ ((b.acc.length:Int)>(k:Int)):=oM;have O:=cW f;go_wp2_with fail
    go_meet;exact⟨_,_,_,_,_,a.more oM,za (r.out.more oM)⟩
  ·subst hy;have aE:True:=trivial
   by_cases hl0:0<l.length
   ·obtain⟨gr,rfl,-,-⟩:=zac I hl0;have bx:=a.hR;have cN:∀ W,Dr R f W->W.cell? ⟨gN,k,none⟩=some (.slice (some gr) l.length cr):=fun W hW=>hW.aa u (by simp;omega);have V:∀ W,Dr R f W->∀ q,W.cell? ⟨G,q,none⟩=#[Value.int .i64 b.al,.slice (some gN) m d,.slice B' b.acc.length d'][q]?:=fun W hW=>(a.blk.dr hW (oH a.hG)).cell;have bA:=Dr.refl R f;clear u I;go_wp2_with fail
    refine tR (fun X=>Dr R f X) [17] (Ord.of [0,1,2,3,4,5,6,7,8,9,10,11,13,14,12,15,16,17]) ?_;refine tQ ?_;refine zA fun K hK=>?_;go_simp;refine (zx (n:=l.length) (a.rd.ext (cW _).drew) oM).mono ?_;rintro e w6 ⟨j,rfl,aZ,-,hr6,hd6⟩;have bC:=aZ oM;have Y:Dr R f w6:=(Dr.refl R f).drew.trans hd6;refine hK.out _ _ Y ?_;refine pT ?_;refine tQ ?_;refine zA fun K hK=>?_;go_simp;refine (zx (n:=m) hr6 oM).mono ?_;rintro e w7 ⟨x,rfl,bg,-,a3,aX⟩;have Z:Dr R f w7:=Y.trans aX;have E:=a.drawn Z a3;refine hK.out _ _ Z ?_;refine pT ?_;refine tQ ?_;have zjc:=E.rows.2.1 k _ l HR.out HL.out;obtain⟨o0,c0⟩:=zaX zjc j oM;have f0:=zjc.frozenAt j;have J:=E.setRow (k:=j) (x:=x) HR.out HL.out rfl;refine zJ fun K hK=>?_;go_simp;refine hK.out _ _ ?_;refine zai ?_;go_wp2_with fail
    go_meet;refine⟨_,_,_,_,_,J.more oM,za ⟨by have:=r.out.1;rw [fF];omega,oH r.out.2.1,fun l' hl'=>?_⟩⟩;rcases eY hl' with D|D
    ·have:=r.out.2.2 l' D;omega
    ·rw [D];simp;have:=ad.out;omega
   ·have bE:l.length=0:=oM;have bF:¬ ((l.length:Int)>0):=oM;have V:=a.blk.cell;go_wp2_with fail
    go_meet;exact⟨_,_,_,_,_,a.more oM,za (r.out.more oM)⟩
  ·subst hy;have aE:True:=trivial;have V:=fun W (hW:Ext f W)=>(a.blk.ext hW).cell;have aU:∀ W,Ext f W->W.cell? ⟨gN,k,none⟩=some (.slice Ar l.length cr):=fun W hW=>hW.aa u;have O:=cW f
   by_cases D:12<=m
   ·have ao:¬ ((m:Int)<12):=oM;go_wp2_with fail
    go_meet;exact⟨_,_,_,_,_,a.more oM,za (r.out.more oM)⟩
   have ao:(m:Int)<12:=oM
   by_cases h2:b.acc.length<=k
   ·have ap:¬ ((b.acc.length:Int)>(k:Int)):=oM;go_wp2_with fail
    go_meet;exact⟨_,_,_,_,_,a.more oM,za (r.out.more oM)⟩
   have ap:(b.acc.length:Int)>(k:Int):=oM
   by_cases h3:l.length<=0
   ·have bw:¬ ((l.length:Int)>0):=oM;have bc:l.length=0:=oM;go_wp2_with fail
    go_meet;exact⟨_,_,_,_,_,a.more oM,za (r.out.more oM)⟩
   have bd:=za a.lenAt;have aa:=dY I;have aR:=za (fun W (hW:Ext f W)=>aa.ext hW);have ay:=za a.low;have be:=za I;clear u I aa;go_upto_region 15 with fail
   refine uR (fun X=>Ext f X) [10,12] (zw.of [0,1,3,4,5,6,7,2,8,9,10,11,12]) ?_;refine uQ ?_;have p:Ext f f.drew:=O.drew;generalize f.drew=wd at *;refine zd fun K hK=>?_;go_simp;have hm:=World.ownsRow_made (base:=f.heap.size) (e:=3) (size:=1) wd #[] 0 p.size (dD _) rfl;have z:=(cW wd).alloc (.cells #[] 3);replace p:=p.trans z;refine hK.out _ _ p ?_;generalize wd.alloc _=wm at *;generalize wd.heap.size=MM at *;refine pT ?_;refine uQ ?_;refine zd (fun K hK=>?_);refine zv wm _ _ 74 rfl f.heap.size 3 _ 1 8 Tryz.underlying74 zae rfl dM (.slice (some MM) 0 0) 0 [] rfl hm _ _ Ar l.length cr (ints l) rfl (aR.out _ p) (ziv _) lM oM p.size ?_;intro vR w6 hrow hgR hatR;rw [dS,List.nil_append] at hrow;obtain⟨BR,dR,rfl⟩:=zi hrow;have C:Ext f w6:=p.grown hgR (fun k hk=>(hm.lt k hk).1);refine hK.out _ _ C ?_;refine pT ?_;refine uQ ?_;refine zd fun K hK=>?_;go_simp;refine hK.out _ _ (C.alloc _) ?_;refine pT ?_;refine zb fun K hK=>?_;have s:=a.ext C;have H:=s.nx;rw [← Q.out] at H;refine zaL w1 w6 _ _ _ rfl 74 _ 1 24 Tryz.underlying23 zcd rfl dM (.slice (some gN) m d) m o _ _ rfl rfl s.dr.size H rfl (zaU _ _ _) lM oM ?_;intro g7 cap7 w7 hown7 hg7 hat7 hlt7;refine hK.out _ _ ?_;refine pT ?_;refine uQ ?_;obtain⟨p1,p2,p3⟩:=s.ar (l:=l) (W':=w7) (g:=g7) (cap:=cap7) ay.out a5 hrow (by rw [← Q.out];exact hown7) hg7 hat7;have a6:=p1.out;rw [← Q.out] at p3;refine zb fun K hK=>?_;go_simp;refine hK.out _ _ ?_;refine ze ?_;generalize w7.setCell ⟨G,1,none⟩ (.slice (some g7) (m+1) cap7)=w8 at *;have bI:=p3.dr.size;clear p1 a6 p2 V aU hown7 hg7 hat7 s a H C p z;obtain⟨gA,rfl,aY,-⟩:=zac p3.acc oM;obtain⟨x,hx⟩:∃ x,b.acc[k]?=some x:=⟨_,dC oM⟩;have F:w8.cell? ⟨gA,k,none⟩=some (.bool x):=by rw [p3.acc.cellAt k oM];simp [zaA,hx]
   have cA:∀ W,Ext w8 W->W.cell? ⟨gA,k,none⟩=some (.bool x):=fun W hW=>hW.aa F;have aT:=fun W (hW:Ext w8 W)=>(p3.blk.ext hW).cell;have O:=cW w8;clear F hx;go_upto_region 16 with fail
   refine uR (fun X=>Ext w8 X) [8,10] (zw.of [0,1,2,3,4,5,6,7,8,9,10]) ?_;refine uQ ?_;have ah:Ext w8 w8.drew:=O.drew;generalize w8.drew=a9 at *;refine zd fun K hK=>?_;go_simp;refine hK.out _ _ (ah.alloc _) ?_;refine pT ?_;refine zb fun K hK=>?_;have t:=p3.ext ah;refine zaL w1 a9 _ _ _ rfl 4 _ 1 1 Tryz.underlying24 zbf rfl dM (.slice (some gA) b.acc.length d') b.acc.length (zaA b.acc) _ _ rfl rfl t.dr.size t.acc rfl (by simp [Value.oneCell']) (by unfold maxLen;have:=r.out.2.1;omega) (oH r.out.2.1) ?_;intro g9 cap9 w9 hown9 hg9 hat9 hlt9;refine hK.out _ _ ?_;refine pT ?_;refine uQ ?_;obtain⟨q1,q2,q3⟩:=t.ao (x:=x) hown9 hg9 hat9;have a7:=q1.out;refine zb fun K hK=>?_;go_simp;refine hK.out _ _ ?_;refine ze ?_;generalize w9.setCell ⟨G,2,none⟩ (.slice (some g9) (b.acc.length+1) cap9)=a8 at *;clear q1 a7 q2 aT cA t p3 hown9 hg9 hat9 ah;have a0:k<o.length:=by have:=q3.rows.1;simp at this;have:=Q.out;omega
   have T:(o++[Value.slice BR l.length dR])[k]?=some (.slice Ar l.length cr):=by rw [dK a0];exact HR.out
   have af:(b.next++[l])[k]?=some l:=by rw [dK (oH Q.out)];exact HL.out
   have zjc:=q3.rows.2.1 k _ l T af;obtain⟨gr,rfl,-,-⟩:=zac zjc oM;obtain⟨o0,c0⟩:=zaX zjc 0 oM;have f0:=zjc.frozenAt 0;have J:=q3.setRow (k:=0) (x:=m) T af rfl;have V:=q3.blk.cell;have cN:a8.cell? ⟨g7,k,none⟩=some (.slice (some gr) l.length cr):=by
    have:=q3.nx;rw [List.length_append,List.length_singleton,← Q.out] at this;rw [this.cellAt k oM];exact T
   clear zjc T af;go_wp2_with fail
   go_meet;refine⟨_,_,_,_,_,J.more oM,za ⟨by have:=r.out.1;rw [fF];simp;omega,by have:=r.out.2.1;simp;omega,fun l' hl'=>?_⟩⟩;rcases eY hl' with D|D
   ·rcases List.mem_append.1 D with D|D
    ·have:=r.out.2.2 l' D;omega
    ·rw [List.mem_singleton.1 D];have:=ad.out;omega
   ·rw [D];simp;have:=ad.out;omega
  ·have bu:((y:Int)==0)=false:=by simp;omega
   have ao:((y:Int)==1)=false:=by simp;omega
   have ap:((y:Int)==2)=false:=by simp;omega
   go_wp2_with fail
   go_meet;exact⟨_,_,_,_,_,a.more oM,za (r.out.more oM)⟩
 case rest =>
  clear a;obtain⟨v,o,ls,vA,S,a,aW⟩:=hcut;obtain⟨A5,c5,rfl⟩:=zi a.nx;obtain⟨B5,d5,rfl⟩:=zi a.acc;obtain⟨f1,f2⟩:=a.fin (N:=M+10) (sh:=BdA (L+1)) z bz rfl hRl oM aF oM aW.out;have bz5:=bz.dr a.dr oM;have V:=a.blk.cell;have cZ:=bz5.cell;have fZ:=bz5.frozen;go_wp2_with fail
  have cf:=f2.cell;exact bodyPost_ret (v:=.agg #[b.al,.slice A5 ls.length c5,.slice B5 S.length d5]) (by simp [results,Tryz.results73,go_sem,cf]) rfl f1.out
theorem own_typ {e:TypeId} {size:Nat}  {xs:List Value}(h:w.ownsRow base e size v n xs)(hb:v.ownBlock=some b):∃ cur,w.heap[b]?=some (.cells cur e (0,0)):=by
 rcases h.2 with ⟨rfl,_⟩|⟨g,a,cur,rfl,_,c,_⟩
 ·simp [Value.ownBlock] at hb
 ·have:g=b:=by simpa [Value.ownBlock] using hb
  subst this;exact⟨cur,c⟩
theorem zX.frmT {a:Aut}(h:zX w base A n c A' n' c' a)(hb:Frm S w w')
  (hS:∀ k,S k->∀ cs t,w.heap[k]?=some (.cells cs t (0,0))->t≠3∧t≠74∧t≠4):zX w' base A n c A' n' c' a:=by
 obtain⟨⟨f,g,j⟩,m,l,o⟩:=h;refine⟨⟨f,zf g hb (fun b hv hs=>?_),j.frm hb (fun i r b hr hb hs=>?_)⟩,m,zf l hb (fun b hv hs=>?_),o⟩
 ·obtain⟨cs,d⟩:=own_typ g hv;exact (hS b hs cs _ d).2.1 rfl
 ·obtain⟨q,_,p⟩:=j.row hr;obtain⟨cs,d⟩:=own_typ p hb;exact (hS b hs cs _ d).1 rfl
 ·obtain⟨cs,d⟩:=own_typ l hv;exact (hS b hs cs _ d).2.2 rfl
theorem zX.ay {G:Nat}     {a:Aut}  (h:zX w base A n c A' n' c' a)(hB:Blk w G t cs)(hf:Frm (fun k=>k=G) w w')(ht:t≠3∧t≠74∧t≠4):zX w' base A n c A' n' c' a:=
 h.frmT hf (fun k hk cs' t' hh=>by
  subst hk
  unfold Blk at hB
  rw [hB] at hh
  injection hh with hh
  injection hh with _ h2
  subst h2
  exact ht)
theorem Dr.far {a b c:World}(h:Dr R a b)(hf:Frm (fun k=>k=Z) b c)(hZ:a.heap.size<=Z):Dr R a c:=
 ⟨hf.os.trans h.os,hf.tape.trans h.tape,hf.output.trans h.output,Nat.le_trans h.size hf.size,fun k hk hn=>(hf.block k (Nat.lt_of_lt_of_le hk h.size) (fun e=>oM)).trans (h.block k hk hn)⟩
theorem zag (W:World) (Z:Nat) (u0 u1 u2:Value):Frm (fun k=>k=Z) W (((W.setCell Z u0).setCell ⟨Z,1,none⟩ u1).setCell ⟨Z,2,none⟩ u2):=
 ((dE W Z 0 u0).trans (dE _ Z 1 u1)).trans (dE _ Z 2 u2)
theorem zaw (h:Blk w Z t cs)(hc:cs.size=3) (u0 u1 u2:Value):Blk (((w.setCell Z u0).setCell ⟨Z,1,none⟩ u1).setCell ⟨Z,2,none⟩ u2) Z t #[u0,u1,u2]:=by
 obtain⟨l⟩:=cs
 match l,hc with
 |[a,b,c],_=>simpa using ((h.ab 0 u0).ab 1 u1).ab 2 u2
def autZ:Aut:=⟨0,[],[]⟩
theorem ziA (w:World) (base:Nat):zX w base none 0 0 none 0 0 autZ:=⟨⟨[],World.ownsRow_nil _ _ _ _,zG.nil _ _⟩,rfl,World.ownsRow_nil _ _ _ _,rfl⟩
theorem bd_autZ (K:Nat):BdA K autZ:=⟨dD _,dD _,fun l hl=>by simp [autZ] at hl⟩
structure zby (w0 W:World) (R M L K:Nat) (s:Sys) (A:Option Addr) (n c:Nat) (t:Sys) (C:Option Addr) (k c2:Nat) (p:Aut) (B:Option Addr) (m d:Nat) (B':Option Addr) (m' d':Nat):Prop where
 is:zbp W R A n s
 it:zbp W R C k t
 ip:zX W (R+1) B m d B' m' d' p
 ns:(n<=L∧n<=c)∧(k<=L∧k<=c2)
 bd:Hid (BdA K p)
 rd:Rd W R M
 dr:Dr R w0 W
 hR:R<w0.heap.size
section
variable {w0 W W':World} {R M L K N J H Z n c k c2 m d m' d':Nat} {s t:Sys} {p:Aut} {A B B' C:Option Addr}
theorem zby.drawn (h:zby w0 W R M L K s A n c t C k c2 p B m d B' m' d')(hd:Dr R W W')(hr:Rd W' R N):zby w0 W' R N L K s A n c t C k c2 p B m d B' m' d':=
 ⟨h.is.dr hd,h.it.dr hd,h.ip.aq hd (fun b h1 e=>oM),h.ns,h.bd,hr,h.dr.trans hd,h.hR⟩
theorem zby.ext (h:zby w0 W R M L K s A n c t C k c2 p B m d B' m' d')(hx:Ext W W'):zby w0 W' R M L K s A n c t C k c2 p B m d B' m' d':=h.drawn hx.dr (h.rd.ext hx)
theorem zby.more (h:zby w0 W R M L K s A n c t C k c2 p B m d B' m' d')(hM:M<=N)(hL:L<=J)(hK:K<=H):zby w0 W R N J H s A n c t C k c2 p B m d B' m' d':=
 ⟨h.is,h.it,h.ip,oH h.ns,za (BdL.more h.bd.out hK),h.rd.more hM,h.dr,h.hR⟩
theorem zby.far {ty:TypeId} (h:zby w0 W R M L K s A n c t C k c2 p B m d B' m' d')(hB:Blk W Z ty cs)(hf:Frm (fun k=>k=Z) W W')(hZ:w0.heap.size<=Z)(h1:ty≠103)(h2:ty≠3∧ty≠74∧ty≠4):zby w0 W' R M L K s A n c t C k c2 p B m d B' m' d':=
 ⟨h.is.far hB h1 hf,h.it.far hB h1 hf,h.ip.ay hB hf h2,h.ns,h.bd,h.rd.frm hf (fun k hk e=>oH h.hR),h.dr.far hf hZ,h.hR⟩
theorem zby.less (h:zby w0 W R M L K s A n c t C k c2 p B m d B' m' d')(hd:Dr R w1 w0)(hR:R<w1.heap.size):zby w1 W R M L K s A n c t C k c2 p B m d B' m' d':=
 ⟨h.is,h.it,h.ip,h.ns,h.bd,h.rd,hd.trans h.dr,hR⟩
end
def Ne6 (a b c d e f:Nat):Prop:=(a≠b∧a≠c∧a≠d∧a≠e∧a≠f)∧(b≠c∧b≠d∧b≠e∧b≠f)∧(c≠d∧c≠e∧c≠f)∧(d≠e∧d≠f)∧e≠f
structure Tri (w0 W:World) (R M L K:Nat) (Zs Zt Zp Gs Gt Gp:Nat) (s:Sys) (A:Option Addr) (n c:Nat) (t:Sys) (C:Option Addr) (k c2:Nat) (p:Aut) (B:Option Addr) (m d:Nat) (B':Option Addr) (m' d':Nat):Prop where
 at_:zby w0 W R M L K s A n c t C k c2 p B m d B' m' d'
 zs:Blk W Zs 39 #[(0:Int),(0:Int),()]
 zt:Blk W Zt 39 #[(0:Int),(0:Int),()]
 zp:Blk W Zp 26 #[(0:Int),(),()]
 bs:Blk W Gs 39 #[s.al,s.st,.slice A n c]
 bt:Blk W Gt 39 #[t.al,t.st,.slice C k c2]
 bp:Gp=0∨Blk W Gp 26 #[p.al,.slice B m d,.slice B' m' d']
 ge:w0.heap.size<=Zs∧w0.heap.size<=Zt∧w0.heap.size<=Zp∧w0.heap.size<=Gs∧w0.heap.size<=Gt∧(Gp=0∨w0.heap.size<=Gp)
 ne:Hid (Ne6 Zs Zt Zp Gs Gt Gp)
section
variable {w0 W W':World} {R M L K N J H n c k c2 m d m' d' Zs Zt Zp Gs Gt Gp:Nat} {s t:Sys} {p:Aut} {A B B' C:Option Addr}
theorem Tri.drawn (h:Tri w0 W R M L K Zs Zt Zp Gs Gt Gp s A n c t C k c2 p B m d B' m' d')(hd:Dr R W W')(hr:Rd W' R N):Tri w0 W' R N L K Zs Zt Zp Gs Gt Gp s A n c t C k c2 p B m d B' m' d':=by
 have f:=h.at_.hR;have a:=h.ge;exact⟨h.at_.drawn hd hr,h.zs.dr hd oM,h.zt.dr hd oM,h.zp.dr hd oM,h.bs.dr hd oM,h.bt.dr hd oM,by
  rcases a.2.2.2.2.2 with e|e
  ·exact .inl e
  ·exact h.bp.imp id (fun b=>b.dr hd oM),a,h.ne⟩
theorem Tri.ext (h:Tri w0 W R M L K Zs Zt Zp Gs Gt Gp s A n c t C k c2 p B m d B' m' d')(hx:Ext W W'):Tri w0 W' R M L K Zs Zt Zp Gs Gt Gp s A n c t C k c2 p B m d B' m' d':=h.drawn hx.dr (h.at_.rd.ext hx)
theorem Tri.more (h:Tri w0 W R M L K Zs Zt Zp Gs Gt Gp s A n c t C k c2 p B m d B' m' d')(hM:M<=N)(hL:L<=J)(hK:K<=H):Tri w0 W R N J H Zs Zt Zp Gs Gt Gp s A n c t C k c2 p B m d B' m' d':={ h with at_:=h.at_.more hM hL hK }
theorem Tri.az (h:Tri w0 W R M L K Zs Zt Zp Gs Gt Gp s A n c t C k c2 p B m d B' m' d')(hG:Gp≠0):Blk W Gp 26 #[.int .i64 p.al,.slice B m d,.slice B' m' d']:=h.bp.resolve_left hG
theorem Tri.setS (h:Tri w0 W R M L K Zs Zt Zp Gs Gt Gp s A n c t C k c2 p B m d B' m' d')(hs:zbp W R A2 n2 s2)(hn:n2<=L∧n2<=d2) :
  Tri w0 (((W.setCell Gs s2.al).setCell ⟨Gs,1,none⟩ s2.st).setCell ⟨Gs,2,none⟩ (.slice A2 n2 d2)) R M L K Zs Zt Zp Gs Gt Gp s2 A2 n2 d2 t C k c2 p B m d B' m' d':=by
 have a:=zag W Gs (.int .i64 s2.al) (.int .i64 s2.st) (.slice A2 n2 d2);obtain⟨⟨i,j,l,o,q⟩,⟨r,u,v,x⟩,⟨y,c2,z⟩,⟨D,g⟩,E⟩:=h.ne.out;have f:=h.at_.far h.bs a h.ge.2.2.2.1 dM dM;exact⟨{ f with is:=hs.far h.bs dM a,ns:=⟨hn,f.ns.2⟩ },h.zs.frm a oM,h.zt.frm a oM,h.zp.frm a oM,zaw h.bs rfl _ _ _,h.bt.frm a oM,h.bp.imp id (fun b=>b.frm a oM),h.ge,h.ne⟩
theorem Tri.setT (h:Tri w0 W R M L K Zs Zt Zp Gs Gt Gp s A n c t C k c2 p B m d B' m' d')(hs:zbp W R A2 n2 s2)(hn:n2<=L∧n2<=d2) :
  Tri w0 (((W.setCell Gt s2.al).setCell ⟨Gt,1,none⟩ s2.st).setCell ⟨Gt,2,none⟩ (.slice A2 n2 d2)) R M L K Zs Zt Zp Gs Gt Gp s A n c s2 A2 n2 d2 p B m d B' m' d':=by
 have a:=zag W Gt (.int .i64 s2.al) (.int .i64 s2.st) (.slice A2 n2 d2);obtain⟨⟨i,j,l,o,q⟩,⟨r,u,v,x⟩,⟨y,c2,z⟩,⟨D,g⟩,E⟩:=h.ne.out;have f:=h.at_.far h.bt a h.ge.2.2.2.2.1 dM dM;exact⟨{ f with it:=hs.far h.bt dM a,ns:=⟨f.ns.1,hn⟩ },h.zs.frm a oM,h.zt.frm a oM,h.zp.frm a oM,h.bs.frm a oM,zaw h.bt rfl _ _ _,h.bp.imp id (fun b=>b.frm a oM),h.ge,h.ne⟩
theorem Tri.setP {p2:Aut}   {A3:Option Addr} {n3 d3:Nat}(h:Tri w0 W R M L K Zs Zt Zp Gs Gt Gp s A n c t C k c2 p B m d B' m' d')(hG:Gp≠0)(hp:zX W (R+1) A2 n2 d2 A3 n3 d3 p2)(hb:BdA K p2) :
  Tri w0 (((W.setCell Gp p2.al).setCell ⟨Gp,1,none⟩ (.slice A2 n2 d2)).setCell ⟨Gp,2,none⟩ (.slice A3 n3 d3)) R M L K Zs Zt Zp Gs Gt Gp s A n c t C k c2 p2 A2 n2 d2 A3 n3 d3:=by
 have a:=zag W Gp (.int .i64 p2.al) (.slice A2 n2 d2) (.slice A3 n3 d3);obtain⟨⟨i,j,l,o,q⟩,⟨r,u,v,x⟩,⟨y,c2,z⟩,⟨D,f⟩,E⟩:=h.ne.out;have b:=h.az hG;have g:=h.at_.far b a (h.ge.2.2.2.2.2.resolve_left hG) dM dM;exact⟨{ g with ip:=hp.ay b a dM,bd:=za hb },h.zs.frm a oM,h.zt.frm a oM,h.zp.frm a oM,h.bs.frm a oM,h.bt.frm a oM,.inr (zaw b rfl _ _ _),h.ge,h.ne⟩
end
def RetSTP (R M L K:Nat) (w:World) (e:Ending) (w':World):Prop:=
 ∃ (s:Sys) (A:Option Addr) (n c:Nat) (t:Sys) (C:Option Addr) (k c2:Nat) (p:Aut) (B:Option Addr) (m d:Nat) (B':Option Addr) (m' d':Nat),
  e=.returned (.tuple #[.agg #[s.al,s.st,.slice A n c],.agg #[t.al,t.st,.slice C k c2],.agg #[p.al,.slice B m d,.slice B' m' d']])∧zby w w' R M L K s A n c t C k c2 p B m d B' m' d'
def RetSPT (R M L K:Nat) (w:World) (e:Ending) (w':World):Prop:=
 ∃ (s:Sys) (A:Option Addr) (n c:Nat) (t:Sys) (C:Option Addr) (k c2:Nat) (p:Aut) (B:Option Addr) (m d:Nat) (B':Option Addr) (m' d':Nat),
  e=.returned (.tuple #[.agg #[s.al,s.st,.slice A n c],.agg #[p.al,.slice B m d,.slice B' m' d'],.agg #[t.al,t.st,.slice C k c2]])∧zby w w' R M L K s A n c t C k c2 p B m d B' m' d'
section
variable {w0 W:World} {R M L K N J H n c k c2 m d m' d' Zs Zt Zp:Nat} {s t:Sys} {p:Aut} {A B B' C:Option Addr} {us ut up:Array Value}
theorem zby.finSTP (h:zby w0 W R M L K s A n c t C k c2 p B m d B' m' d') (zs:Blk W Zs 39 us) (zt:Blk W Zt 39 ut) (zp:Blk W Zp 26 up)(h1:us.size=3)(h2:ut.size=3)(h3:up.size=3)(hz1:w0.heap.size<=Zs)(hz2:w0.heap.size<=Zt)(hz3:w0.heap.size<=Zp) (e1:Zs≠Zt) (e2:Zs≠Zp) (e3:Zt≠Zp) :
  Hid (zby w0 (((((((((W.setCell Zs s.al).setCell ⟨Zs,1,none⟩ s.st).setCell ⟨Zs,2,none⟩ (.slice A n c)).setCell Zt t.al).setCell ⟨Zt,1,none⟩ t.st).setCell ⟨Zt,2,none⟩ (.slice C k c2)).setCell Zp p.al).setCell ⟨Zp,1,none⟩ (.slice B m d)).setCell ⟨Zp,2,none⟩ (.slice B' m' d')) R M L K s A n c t C k c2 p B m d B' m' d') ∧
  Hid (Blk (((((((((W.setCell Zs s.al).setCell ⟨Zs,1,none⟩ s.st).setCell ⟨Zs,2,none⟩ (.slice A n c)).setCell Zt t.al).setCell ⟨Zt,1,none⟩ t.st).setCell ⟨Zt,2,none⟩ (.slice C k c2)).setCell Zp p.al).setCell ⟨Zp,1,none⟩ (.slice B m d)).setCell ⟨Zp,2,none⟩ (.slice B' m' d')) Zs 39 #[s.al,s.st,.slice A n c] ∧
  Blk (((((((((W.setCell Zs s.al).setCell ⟨Zs,1,none⟩ s.st).setCell ⟨Zs,2,none⟩ (.slice A n c)).setCell Zt t.al).setCell ⟨Zt,1,none⟩ t.st).setCell ⟨Zt,2,none⟩ (.slice C k c2)).setCell Zp p.al).setCell ⟨Zp,1,none⟩ (.slice B m d)).setCell ⟨Zp,2,none⟩ (.slice B' m' d')) Zt 39 #[t.al,t.st,.slice C k c2] ∧
  Blk (((((((((W.setCell Zs s.al).setCell ⟨Zs,1,none⟩ s.st).setCell ⟨Zs,2,none⟩ (.slice A n c)).setCell Zt t.al).setCell ⟨Zt,1,none⟩ t.st).setCell ⟨Zt,2,none⟩ (.slice C k c2)).setCell Zp p.al).setCell ⟨Zp,1,none⟩ (.slice B m d)).setCell ⟨Zp,2,none⟩ (.slice B' m' d')) Zp 26 #[p.al,.slice B m d,.slice B' m' d']):=by
 have f1:=zag W Zs (.int .i64 s.al) (.int .i64 s.st) (.slice A n c);have b:=zaw zs h1 (.int .i64 s.al) (.int .i64 s.st) (.slice A n c);replace h:=h.far zs f1 hz1 dM dM;replace zt:=zt.frm f1 oM;replace zp:=zp.frm f1 oM;clear f1 zs;generalize ((W.setCell Zs s.al).setCell ⟨Zs,1,none⟩ s.st).setCell ⟨Zs,2,none⟩ (.slice A n c)=f at *;have f2:=zag f Zt (.int .i64 t.al) (.int .i64 t.st) (.slice C k c2);have i:=zaw zt h2 (.int .i64 t.al) (.int .i64 t.st) (.slice C k c2);replace h:=h.far zt f2 hz2 dM dM;replace b:=b.frm f2 oM;replace zp:=zp.frm f2 oM;clear f2 zt;generalize ((f.setCell Zt t.al).setCell ⟨Zt,1,none⟩ t.st).setCell ⟨Zt,2,none⟩ (.slice C k c2)=g at *;have a:=zag g Zp (.int .i64 p.al) (.slice B m d) (.slice B' m' d');exact⟨za (h.far zp a hz3 dM dM),za ⟨b.frm a oM,i.frm a oM,zaw zp h3 _ _ _⟩⟩
theorem zby.finSPT (h:zby w0 W R M L K s A n c t C k c2 p B m d B' m' d') (zs:Blk W Zs 39 us) (zt:Blk W Zt 39 ut) (zp:Blk W Zp 26 up)(h1:us.size=3)(h2:ut.size=3)(h3:up.size=3)(hz1:w0.heap.size<=Zs)(hz2:w0.heap.size<=Zt)(hz3:w0.heap.size<=Zp) (e1:Zs≠Zt) (e2:Zs≠Zp) (e3:Zt≠Zp) :
  Hid (zby w0 (((((((((W.setCell Zs s.al).setCell ⟨Zs,1,none⟩ s.st).setCell ⟨Zs,2,none⟩ (.slice A n c)).setCell Zp p.al).setCell ⟨Zp,1,none⟩ (.slice B m d)).setCell ⟨Zp,2,none⟩ (.slice B' m' d')).setCell Zt t.al).setCell ⟨Zt,1,none⟩ t.st).setCell ⟨Zt,2,none⟩ (.slice C k c2)) R M L K s A n c t C k c2 p B m d B' m' d') ∧
  Hid (Blk (((((((((W.setCell Zs s.al).setCell ⟨Zs,1,none⟩ s.st).setCell ⟨Zs,2,none⟩ (.slice A n c)).setCell Zp p.al).setCell ⟨Zp,1,none⟩ (.slice B m d)).setCell ⟨Zp,2,none⟩ (.slice B' m' d')).setCell Zt t.al).setCell ⟨Zt,1,none⟩ t.st).setCell ⟨Zt,2,none⟩ (.slice C k c2)) Zs 39 #[s.al,s.st,.slice A n c] ∧
  Blk (((((((((W.setCell Zs s.al).setCell ⟨Zs,1,none⟩ s.st).setCell ⟨Zs,2,none⟩ (.slice A n c)).setCell Zp p.al).setCell ⟨Zp,1,none⟩ (.slice B m d)).setCell ⟨Zp,2,none⟩ (.slice B' m' d')).setCell Zt t.al).setCell ⟨Zt,1,none⟩ t.st).setCell ⟨Zt,2,none⟩ (.slice C k c2)) Zt 39 #[t.al,t.st,.slice C k c2] ∧
  Blk (((((((((W.setCell Zs s.al).setCell ⟨Zs,1,none⟩ s.st).setCell ⟨Zs,2,none⟩ (.slice A n c)).setCell Zp p.al).setCell ⟨Zp,1,none⟩ (.slice B m d)).setCell ⟨Zp,2,none⟩ (.slice B' m' d')).setCell Zt t.al).setCell ⟨Zt,1,none⟩ t.st).setCell ⟨Zt,2,none⟩ (.slice C k c2)) Zp 26 #[p.al,.slice B m d,.slice B' m' d']):=by
 have f1:=zag W Zs (.int .i64 s.al) (.int .i64 s.st) (.slice A n c);have b:=zaw zs h1 (.int .i64 s.al) (.int .i64 s.st) (.slice A n c);replace h:=h.far zs f1 hz1 dM dM;replace zt:=zt.frm f1 oM;replace zp:=zp.frm f1 oM;clear f1 zs;generalize ((W.setCell Zs s.al).setCell ⟨Zs,1,none⟩ s.st).setCell ⟨Zs,2,none⟩ (.slice A n c)=f at *;have f2:=zag f Zp (.int .i64 p.al) (.slice B m d) (.slice B' m' d');have i:=zaw zp h3 (.int .i64 p.al) (.slice B m d) (.slice B' m' d');replace h:=h.far zp f2 hz3 dM dM;replace b:=b.frm f2 oM;replace zt:=zt.frm f2 oM;clear f2 zp;generalize ((f.setCell Zp p.al).setCell ⟨Zp,1,none⟩ (.slice B m d)).setCell ⟨Zp,2,none⟩ (.slice B' m' d')=g at *;have a:=zag g Zt (.int .i64 t.al) (.int .i64 t.st) (.slice C k c2);exact⟨za (h.far zt a hz2 dM dM),za ⟨b.frm a oM,zaw zt h2 _ _ _,i.frm a oM⟩⟩
end
theorem bits_all (y:Nat)(hy:y<64):bits .and .i64 (-1) (y:Int)=(y:Int):=
 (show ∀ y:Fin 64,bits .and .i64 (-1) ((y.val:Nat):Int)=((y.val:Nat):Int) by decide +kernel) ⟨y,hy⟩
theorem yQ04a2 {P:Prop}(h:P:=by
 obtain⟨f1,f2⟩:=zid (N:=M+600) (sh:=zfS) hxz zjc hsh.out hr6 hd6 bz rfl hRl (Nat.le_refl _) (Nat.le_refl _);have bz5:=bz.dr hd6 oM;have cZ:=bz5.cell;have fZ:=bz5.frozen;go_wp2_with fail
 have cf:=f2.cell;exact bodyPost_ret (v:=.agg #[b.al,.slice A n c,.slice A' n' c']) (by simp [results,Tryz.results119,go_sem,cf]) rfl f1.out
 ):P:=h
theorem zgc {zz:Int} (h:Rd w R M)(hM:M<=700000000)(ha:(∃ a:Nat,zz=(a:Int)∧a<64)∨zz = -1) :
  Calls Tryz.prog 119 #[.pointer (some R),zz] w (zfT R (M+600) zfS w):=by
 have hRl:=h.lt
 go_enter Tryz.func119,Tryz.ntmps119
 have hxz:=(cW w).alloc (.cells #[(0:Int),(),()] 26);have bz:=dT w 26 #[(0:Int),(),()];have B:(w.alloc (.cells #[(0:Int),(),()] 26)).heap.size=w.heap.size+1:=sM;go_wp2_with fail
 rw [← B];generalize w.alloc _=w1 at *;refine (zaJ [63,63,5,3,6] 5 #[(63:Int),(63:Int),(5:Int),(3:Int),(6:Int)] rfl rfl oM oM (h.ext hxz) oM).mono ?_;rintro e H ⟨x,j,rfl,r,k⟩;obtain⟨y,C,rfl⟩:∃ y:Nat,y<64∧x=(y:Int):=⟨x.toNat,by simp at j;omega,by simp at j;omega⟩;clear j;replace k:=((Dr.refl R w1).alloc _).trans k;obtain⟨d,m,s⟩:∃ d:Nat,bits .and .i64 zz (y:Int)=(d:Int)∧d<64:=by
  rcases ha with ⟨a,rfl,ha⟩|rfl
  ·exact⟨a&&&y,zcn tM tM,Nat.lt_of_le_of_lt Nat.and_le_left ha⟩
  ·exact⟨y,bits_all y C,C⟩
 go_upto_region 2 with fail
 clear m;go_wp2_with fail
 refine (zx r oM).mono ?_;rintro e I ⟨z,rfl,-,-,i,f⟩;replace f:=k.trans f;clear k r;go_upto_if 13 with fail
 go_cut [5] (fun s5 wx=>∃ d:Nat,d<64∧s5=.int .i64 (d:Nat)∧Rd wx R (M+10)∧Dr R w1 wx)
 case first =>
  by_cases hz:z=0
  ·subst hz;go_wp2_with fail
   refine (spec_l1Some i oM).mono ?_;rintro e G ⟨x,j,rfl,l,g⟩;go_wp2_with fail
   go_meet;exact⟨x,j,rfl,l.more oM,f.trans g⟩
  ·have F:((z:Int)==0)=false:=by simp;omega
   go_wp2_with fail
   go_meet;exact⟨d,s,rfl,i.more oM,f⟩
 case rest =>
  clear i f s;obtain⟨d,t,rfl,i,f⟩:=hcut;go_wp2_with fail
  refine (zx i oM).mono ?_;rintro e G ⟨y,rfl,-,-,l,g⟩;replace g:=f.trans g
  by_cases C:0<y
  ·have D:((y:Int)>0):=oM;go_wp2_with fail
   refine (zaJ [3,2,4,1] 4 #[(3:Int),(2:Int),(4:Int),(1:Int)] rfl rfl oM oM l oM).mono ?_;rintro e J ⟨x,j,rfl,v,u⟩;obtain⟨p,q,E,rfl⟩:∃ y:Nat,1<=y∧y<=4∧x=(y:Int):=⟨x.toNat,by simp at j;omega,by simp at j;omega,by simp at j;omega⟩;clear j;have o:=(g.alloc _).trans u;go_wp2_with fail
   refine (zhi v oM t q oM).mono ?_;intro e w6 hret;obtain⟨b,A,n,c,A',n',c',rfl,zjc,hsh,hr6,hd6⟩:=hret.mono (N:=M+600) (sh':=zfS) o oM (fun b hb=>⟨d,p,t,q,oM,hb⟩);exact yQ04a2
  ·have D:¬ ((y:Int)>0):=oM;go_wp2_with fail
   refine (zhh l oM t).mono ?_;intro e w6 hret;obtain⟨b,A,n,c,A',n',c',rfl,zjc,hsh,hr6,hd6⟩:=hret.mono (N:=M+600) (sh':=zfS) g oM (fun b hb=>hb);exact yQ04a2
theorem zhk (h:Rd w R M)(hM:M<=700000000)(ha:a<64) :
  Calls Tryz.prog 119 #[.pointer (some R),a] w (zfT R (M+600) zfS w):=zgc h hM (.inl ⟨a,rfl,ha⟩)
theorem Dr.new (h:Ext w w1)(hR:w.heap.size<=R)(hd:Dr R w1 w2):Ext w w2:=
 h.frm hd (fun k hk he=>oM)
theorem zbp.new (h:zbp W R A n s)(hR:w.heap.size<=R):zR W w.heap.size W.heap.size A n s:=
 h.at_.more oM (cY _)
theorem zfN (h:Rd w R M)(hM:M<=800000000) :
  Calls Tryz.prog 117 #[.pointer (some R)] w (RetG R (M+30000) 20000 w):=by
 have hRl:=h.lt;have l:=(cW w).alloc (.cells #[(0:Int),(0:Int),()] 39);have bz5:=dT w 39 #[(0:Int),(0:Int),()];have u:=h.ext l;have C:=l.dr (R:=R);have U:=bz5.lt
 go_enter Tryz.func117,Tryz.ntmps117
 go_wp2_with fail
 have G:=(zaJ [3,6,7,5,2] 5 #[(3:Int),(6:Int),(7:Int),(5:Int),(2:Int)] rfl rfl oM oM u oM);simp only [World.size_alloc] at G;refine G.mono ?_;rintro e Y ⟨al,f,rfl,hr6,hd6⟩;have D:=(C.ext ((cW _).alloc _)).trans hd6;have m:=(bz5.ext ((cW _).alloc _)).dr hd6 oM;go_wp2_with fail
 refine (zaJ [2,3,1,3] 4 #[(2:Int),(3:Int),(1:Int),(3:Int)] rfl rfl oM oM hr6 oM).mono ?_;rintro e Z ⟨J,b,rfl,x,i⟩;have E:=(D.ext ((cW _).alloc _)).trans i;have n:=(m.ext ((cW _).alloc _)).dr i oM;go_wp2_with fail
 refine (zaJ [2,3,4] 3 #[(2:Int),(3:Int),(4:Int)] rfl rfl oM oM x oM).mono ?_;rintro e w8 ⟨X,_,rfl,y,j⟩;have F:=(E.ext ((cW _).alloc _)).trans j;have o:=(n.ext ((cW _).alloc _)).dr j oM;obtain⟨a,rfl,S⟩:∃ a:Nat,al=a∧a<64:=⟨al.toNat,by simp at f;omega,by simp at f;omega⟩;obtain⟨p,rfl,t,T⟩:∃ p:Nat,J=p∧1<=p∧p<=16:=⟨J.toNat,by simp at b;omega,by simp at b;omega,by simp at b;omega⟩;clear f b;go_wp2_with fail
 refine (zdp y oM S t T).mono ?_;rintro e w9 ⟨I,O,V,H,rfl,B,r,s,z,k⟩;have d:=o.dr k oM;have g:=za (zgp (R:=R) (M:=M+30000) (L:=20000) (c:=H) B r s (z.more oM) (F.trans k) d hRl (cY _));have q:=d.cell;have Q:=d.frozen;go_wp2_with fail
 exact bodyPost_ret (v:=.agg #[I.al,I.st,.slice O V H]) (by simp [results,Tryz.results117,go_sem,q]) rfl g.out
theorem or_al (ha:a<64)(hb:b<64):bits .or .i64 (a:Int) (b:Int)=((a|||b:Nat):Int)∧a|||b<64:=by
 have h:=Nat.or_lt_two_pow (n:=6) (x:=a) (y:=b) oM oM;exact⟨zbz tM tM,oM⟩
theorem spec_l9Three (h:Rd w R M)(hM:M<=600000000) :
  Calls Tryz.prog 69 #[.pointer (some R)] w (RetSPT R (M+150000) 20000 16 w):=by
 have hRl:=h.lt
 go_enter Tryz.func69,Tryz.ntmps69
 go_upto_region 1 with fail
 generalize U0:((w.alloc _).alloc _).alloc _=w0 at *;obtain⟨ao,z1,z2,z3⟩:=Ext.x3_ U0;have a4:w0.heap.size=w.heap.size+3:=by rw [← U0];simp
 clear U0;go_wp2_with fail
 refine (zfN (h.ext ao) oM).mono ?_;rintro e w1 ⟨s,A,n,c,rfl,F,hg1,ai,E,j⟩;have aF:=j.size;have o:=(cW w1).alloc (.cells #[s.al,s.st,.slice A n c] 39);have bs:=dT w1 39 #[s.al,s.st,.slice A n c];have aE:(w1.alloc (.cells #[s.al,s.st,.slice A n c] 39)).heap.size=w1.heap.size+1:=sM;have ag:Dr R w (w1.alloc (.cells #[s.al,s.st,.slice A n c] 39)):=(ao.dr.trans j).alloc _;replace F:=F.ext o;replace E:=E.ext o;replace z1:=(z1.dr j oM).ext o;replace z2:=(z2.dr j oM).ext o;replace z3:=(z3.dr j oM).ext o;go_upto_region 2 with fail
 generalize hGs:w1.heap.size=Z at *;generalize w1.alloc _=w2 at *;clear o;go_wp2_with fail
 refine (zfN E oM).mono ?_;rintro e w3 ⟨t,C,k,u,rfl,an,D,aj,am,g⟩;have aG:=g.size;have f:=(cW w3).alloc (.cells #[t.al,t.st,.slice C k u] 39);have bt:=dT w3 39 #[t.al,t.st,.slice C k u];have Y:Tri w (w3.alloc (.cells #[t.al,t.st,.slice C k u] 39)) R (M+60000) 20000 16 w.heap.size (w.heap.size+1+1) (w.heap.size+1) Z w3.heap.size 0 s A n c t C k u autZ none 0 0 none 0 0:=
  ⟨⟨(F.dr g).ext f,an.ext f,ziA _ _,⟨ai,aj⟩,za (bd_autZ _),(am.ext f).more oM,(ag.trans g).ext f,hRl⟩,(z1.dr g oM).ext f,(z3.dr g oM).ext f,(z2.dr g oM).ext f,(bs.dr g oM).ext f,bt,.inl rfl,oM,za (by unfold Ne6;omega)⟩
 clear F E z1 z2 z3 bs bt an f ag;go_upto_region 3 with fail
 generalize hGt:w3.heap.size=Gt at *;generalize w3.alloc _=w4 at *;have ak:Hid (Z<Gt∧w.heap.size+3<=Z):=za oM;clear aF aG j g am ai aj aE hGs hGt;go_wp2_with fail
 refine (zx Y.at_.rd oM).mono ?_;rintro e w5 ⟨y,rfl,-,-,l,z⟩;have i:=(Y.drawn z l).more (N:=M+60001) (J:=20000) (H:=16) oM oM oM;clear Y;go_upto_if 13 with fail
 go_cut [] (fun wx=>∃ (s:Sys) (A:Option Addr) (n c:Nat),Good s∧Tri w wx R (M+60001+30000) 20000 16 w.heap.size (w.heap.size+1+1) (w.heap.size+1) Z Gt 0 s A n c t C k u autZ none 0 0 none 0 0)
 case first =>
  by_cases hy:y=0
  ·subst hy;go_wp2_with fail
   refine (zhg l oM).mono ?_;rintro e w6 ⟨s',A',n',c',rfl,V,S,U,hr6,hd6⟩;have a:=(i.drawn hd6 hr6).more (N:=M+60001+30000) (J:=20000) (H:=16) oM oM oM;have cG:=a.bs.cell;have fG:=a.bs.frozen;have L:=a.setS V U;go_wp2_with fail
   go_meet;exact⟨_,_,_,_,S,L⟩
  ·have aI:((y:Int)==0)=false:=by simp;omega
   go_wp2_with fail
   go_meet;exact⟨_,_,_,_,hg1,i.more oM oM oM⟩
 case rest =>
  clear i l z hg1;obtain⟨s,A,n,c,hg1,i⟩:=hcut;go_wp2_with fail
  refine (zx i.at_.rd oM).mono ?_;rintro e w5 ⟨y,rfl,-,-,l,z⟩;have a:=(i.drawn z l).more (N:=M+100000) (J:=20000) (H:=16) oM oM oM;clear i;go_upto_if 18 with fail
  go_cut [] (fun wx=>∃ (t:Sys) (C:Option Addr) (k u:Nat),Good t∧Tri w wx R (M+100000+30000) 20000 16 w.heap.size (w.heap.size+1+1) (w.heap.size+1) Z Gt 0 s A n c t C k u autZ none 0 0 none 0 0)
  case first =>
   by_cases hy:y=0
   ·subst hy;go_wp2_with fail
    refine (zhg a.at_.rd oM).mono ?_;rintro e w6 ⟨s',A',n',c',rfl,V,S,U,hr6,hd6⟩;have b:=(a.drawn hd6 hr6).more (N:=M+100000+30000) (J:=20000) (H:=16) oM oM oM;have cG:=b.bt.cell;have fG:=b.bt.frozen;have L:=b.setT V U;go_wp2_with fail
    go_meet;exact⟨_,_,_,_,S,L⟩
   ·have aI:((y:Int)==0)=false:=by simp;omega
    go_wp2_with fail
    go_meet;exact⟨_,_,_,_,D,a.more oM oM oM⟩
  case rest =>
   clear a l z D;obtain⟨t,C,k,u,D,a⟩:=hcut;obtain⟨a1,p1,O,ae,-⟩:=hg1;obtain⟨a2,p2,Q,af,-⟩:=D;obtain⟨a0,aC⟩:=or_al ae af;obtain⟨r,aH⟩:∃ r,r=wc:=⟨_,rfl⟩;subst aH;have ah:=za a.ge;have aY:=a.at_.hR;have cS:∀ W,Frm (fun k=>k=R∨k=w.heap.size∨k=w.heap.size+1) r W->∀ q,W.cell? ⟨Z,q,none⟩=#[Value.int .i64 a1,.int .i64 s.st,.slice A n c][q]?:=fun W hW=>by rw [← O];exact (a.bs.frm hW (by have:=ah.out;have:=ak.out;omega)).cell
   have cT:∀ W,Frm (fun k=>k=R∨k=w.heap.size∨k=w.heap.size+1) r W->∀ q,W.cell? ⟨Gt,q,none⟩=#[Value.int .i64 a2,.int .i64 t.st,.slice C k u][q]?:=fun W hW=>by rw [← Q];exact (a.bt.frm hW (by have:=ah.out;have:=ak.out;omega)).cell
   have aZ:Frm (fun k=>k=R∨k=w.heap.size∨k=w.heap.size+1) r r.drew:=(cW r).drew.ai;have G:=za O;have I:=za Q;clear O Q;go_wp2_with fail
   refine tR (fun X=>Frm (fun k=>k=R∨k=w.heap.size∨k=w.heap.size+1) r X) [11] (Ord.of [0,1,2,3,4,5,6,8,7,9,10,11]) ?_;refine tQ ?_;refine zA fun K hK=>?_;go_simp;refine (zhk (a.at_.rd.ext (cW r).drew) oM aC).mono ?_;rintro e w7 ⟨p,B,m,d,B',m',d',rfl,hp,aB,aD,aA⟩;have x:Dr R r w7:=(Dr.refl R r).drew.trans aA;have b:=(a.drawn x aD).more (N:=M+150000) (J:=20000) (H:=16) oM oM oM;have ab:Frm (fun k=>k=R∨k=w.heap.size∨k=w.heap.size+1) r w7:=x.mono (fun k _ hk=>.inl hk);refine hK.out _ _ ab ?_;refine pT ?_;refine tQ ?_;have aP:=x.size;have aX:=a.at_.rd.lt;have cs:=b.zs.cell;have ct:=b.zt.cell;have cp:=b.zp.cell;have fs:=b.zs.frozen;have ft:=b.zt.frozen;have fp:=b.zp.frozen;obtain⟨f1,f2⟩:=zby.finSPT ({ b.at_ with ip:=hp.less (by simp;omega),bd:=za (BdA.of aB.out) }) b.zs b.zt b.zp rfl rfl rfl oM oM oM oM oM oM
   rw [G.out,I.out] at f1 f2;refine zA fun K hK=>?_;go_simp;have ad:=ab.trans ((zag w7 w.heap.size (.int .i64 a1) (.int .i64 s.st) (.slice A n c)).mono (T:=fun k=>k=R∨k=w.heap.size∨k=w.heap.size+1) (fun k _ hk=>.inr (.inl hk)));refine hK.out _ _ ad ?_;refine pT ?_;refine zA fun K hK=>?_;go_simp;have az:=ad.trans ((zag _ (w.heap.size+1) (.int .i64 p.al) (.slice B m d) (.slice B' m' d')).mono (T:=fun k=>k=R∨k=w.heap.size∨k=w.heap.size+1) (fun k _ hk=>.inr (.inr hk)));refine hK.out _ _ az ?_;refine pT ?_;refine zJ fun K hK=>?_;go_simp;refine hK.out _ _ ?_;refine zai ?_;go_wp2_with fail
   obtain⟨g1,g2,g3⟩:=f2.out;have c1:=g1.cell;have ax:=g2.cell;have c3:=g3.cell;exact bodyPost_ret (v:=.tuple #[.agg #[a1,s.st,.slice A n c],.agg #[p.al,.slice B m d,.slice B' m' d'],.agg #[a2,t.st,.slice C k u]]) (by simp [results,Tryz.results69,go_sem,c1,ax,c3]) rfl ⟨s,A,n,c,t,C,k,u,p,B,m,d,B',m',d',by rw [G.out,I.out],f1.out⟩
theorem pickA (h:1<=(p:Int)->(x:Int)<p)(h0:(p:Int)<1->x=0):x<p+1:=by
 rcases Nat.lt_or_ge 0 p with a|a
 ·have:=h oM;omega
 ·have:=h0 oM;omega
theorem e_filledA {M' E y:Nat} {w4:World}(hb:Blk w4 E 103 #[(0:Int),(0:Int),(0:Int)])(hr:Rd w4 R M')(hd:Dr R w2 w4)(hE:w2.heap.size<=E)(hR:R<w2.heap.size)(hx:x<p+1)(hy:y<p+1)(hM:M'<=M) :
  ∃ E' x' y':Nat,Value.pointer (some E)=.pointer (some E')∧x'<p+1∧y'<p+1∧w2.heap.size<=E'∧Blk (((w4.setCell E x).setCell ⟨E,1,none⟩ (0:Int)).setCell ⟨E,2,none⟩ y) E' 103 #[x',(0:Int),y']∧Rd (((w4.setCell E x).setCell ⟨E,1,none⟩ (0:Int)).setCell ⟨E,2,none⟩ y) R M∧Dr R w2 (((w4.setCell E x).setCell ⟨E,1,none⟩ (0:Int)).setCell ⟨E,2,none⟩ y):=by
 have a:=zdO w4 E (.int .i64 x) (.int .i64 0) (.int .i64 y);refine⟨E,x,y,rfl,oM,oM,hE,by simpa using ((hb.ab 0 (.int .i64 x)).ab 1 (.int .i64 0)).ab 2 (.int .i64 y),(hr.frm a (fun k h1 h2=>oM)).more hM,?_⟩;exact ((hd.ag (p:=⟨E,0,none⟩) hE _).ag (p:=⟨E,1,none⟩) hE _).ag (p:=⟨E,2,none⟩) hE _
theorem zhF {es:List Edg} (h:Rd w R M)(hM:M<=900000000)(hs:zbp w R A n ⟨a,p,es⟩)(ha:a<64)(hp:p<=16)(hfew:Few (p+1) es)(hn:n<=L)(hL:L<=100000) :
  Calls Tryz.prog 72 #[.pointer (some R),.agg #[a,p,.slice A n c]] w (RetA R (M+10) (L+1) w):=by
 have hRl:=h.lt;have bb:=hs.at_.2;have b7:=za hs.1;have aV:=za hfew;have bF:Sm a:=tM;obtain⟨w1,U0⟩:∃ x,Hid (((w.alloc (.cells #[a,p,.slice A n c] 39)).alloc (.cells #[(0:Int),(0:Int),()] 39)).alloc (.cells #[a,p,()] 39)=x):=⟨_,za rfl⟩;have bg:Ext w w1:=((((cW _).alloc _).alloc _).alloc _).trans (Ext.eq_ U0.out);obtain⟨bS,bZ,bG⟩:=zN (Ext.eq_ U0.out);have aT:=za bS;have aU:=za bZ;have ap:=za bG;have aq:=za bg;clear bS bZ bG bg hs hfew
 go_enter Tryz.func72,Tryz.ntmps72
 go_wp2_with fail
 rw [U0.out] at *;refine (zx (h.ext aq.out) oM).mono ?_;rintro e V ⟨Y,rfl,-,-,U,ai⟩;have cd:=ap.out.lt;have az:=aT.out.dr ai oM;have a1:=aU.out.dr ai oM;have aw:=ap.out.dr ai oM;have be:=aq.out.dr.trans ai;have cS:∀ W,Dr R V W->∀ q,W.cell? ⟨w.heap.size,q,none⟩=#[Value.int .i64 a,.int .i64 p,.slice A n c][q]?:=fun W hW=>(az.dr hW oM).cell;go_upto_region 3 with fail
 go_cut [7] (fun s7 wx=>∃ E x y:Nat,s7=.pointer (some E)∧x<p+1∧y<p+1∧V.heap.size<=E∧Blk wx E 103 #[x,(0:Int),y]∧Rd wx R (M+3)∧Dr R V wx)
 case first =>
  refine tR (fun X=>Dr R V X) [10] (Ord.app [0,1,2,4,5,6] (Ord.two 3 (Ord.two 7 (Ord.of [8,9,10]) 9 (Ord.of [7,8,10])) 9 (Ord.of [3,7,8,10]))) ?_;refine tQ ?_;refine zfl (fun K hK=>?_) (fun K hK=>?_)
  ·go_simp;refine (zx (n:=p) (U.ext ((cW _).drew)) oM).mono ?_;rintro e w3 ⟨x,rfl,hx,aP,O,D⟩;have r:Dr R V w3:=((Dr.refl R V).drew).trans D;refine hK.out _ _ r ?_;refine pT ?_;refine zfl (fun K hK=>?_) (fun K hK=>?_)
   ·go_simp;refine (zx (n:=p) O oM).mono ?_;rintro e w4 ⟨y,rfl,hy,aj,G,T⟩;have j:=r.trans T;refine hK.out _ _ j ?_;refine pT ?_;refine tQ ?_;refine zA fun K hK=>?_;go_simp;refine hK.out _ _ (j.alloc _) ?_;refine pT ?_;refine tQ ?_;refine zJ fun K hK=>?_;go_simp;refine hK.out _ _ ?_;refine zai ?_;go_wp2_with fail
    go_meet;exact⟨w4.heap.size,x,y,rfl,oM,oM,j.size,dT _ _ _,G.ext ((cW _).alloc _),j.alloc _⟩
   ·go_simp;have bi:=(cW w3).alloc (.cells #[(0:Int),(0:Int),(0:Int)] 103);have aa:=r.ext bi;have bd:=O.ext bi;have a6:=O.lt;refine hK.out _ _ aa ?_;generalize U0:w3.alloc _=ci at *;have aI:=Ext.bl_ U0;clear U0;refine pT ?_;refine zA fun K hK=>?_;go_simp;refine (zx (n:=p) bd oM).mono ?_;rintro e w4 ⟨y,rfl,hy,aj,G,T⟩;have j:=aa.trans T;have S:=aI.dr T oM;refine hK.out _ _ j ?_;refine pT ?_;refine tQ ?_;have cE:=S.cell;have fE:=S.frozen;refine zJ fun K hK=>?_;go_simp;refine hK.out _ _ ?_;refine zai ?_;go_wp2_with fail
    go_meet;exact e_filledA S G j r.size U.lt (pickA hx aP) (pickA hy aj) oM
  ·go_simp;have bh:=((cW V).alloc (.cells #[(0:Int),(0:Int),(0:Int)] 103)).drew;have bx:Blk (V.alloc (.cells #[(0:Int),(0:Int),(0:Int)] 103)).drew V.heap.size 103 #[.int .i64 0,.int .i64 0,.int .i64 0]:=dT V _ _;have bc:=U.ext bh;have a6:=U.lt;have al:Dr R V (V.alloc (.cells #[(0:Int),(0:Int),(0:Int)] 103)).drew:=bh.dr;refine hK.out _ _ al ?_;generalize (V.alloc (.cells #[(0:Int),(0:Int),(0:Int)] 103)).drew=ch at *;refine pT ?_;refine zA fun K hK=>?_;go_simp;refine (zx (n:=p) bc oM).mono ?_;rintro e w3 ⟨x,rfl,hx,aP,O,D⟩;have r:=al.trans D;have aI:=bx.dr D oM;refine hK.out _ _ r ?_;refine pT ?_;refine zA fun K hK=>?_;go_simp;refine (zx (n:=p) O oM).mono ?_;rintro e w4 ⟨y,rfl,hy,aj,G,T⟩;have j:=r.trans T;have S:=aI.dr T oM;refine hK.out _ _ j ?_;refine pT ?_;refine tQ ?_;have cE:=S.cell;have fE:=S.frozen;refine zJ fun K hK=>?_;go_simp;refine hK.out _ _ ?_;refine zai ?_;go_wp2_with fail
   go_meet;exact e_filledA S G j (cY _) a6 (pickA hx aP) (pickA hy aj) oM
 case rest =>
  obtain⟨E,x,y,rfl,hx,hy,hE,aJ,O,D⟩:=hcut;have bf:=be.trans D;have aA:=az.dr D oM;have a2:=a1.dr D oM;have aY:=aw.dr D oM;have ce:=aw.lt;clear cS;have cS:=aA.cell;go_wp2_with fail
  refine (zU a bF _).mono ?_;rintro e w4 ⟨B,d,rfl,ab,Q⟩;have aL:=bf.ext Q;have aB:=aA.ext Q;have aD:=a2.ext Q;have ax:=aY.ext Q;have ar:=aJ.ext Q;have G:=O.ext Q;have b2:=aJ.lt;have bA:=zB a 6;have ba:=za (fun k (hk:k∈letters a 6)=>(zbi.1 hk).1);have am:=(dY ab);have bV:=D.size;have bW:=Q.size;have b4:=U.lt;clear cS ab Q aA a2 aY aJ O bf aT aU ap aq az a1 aw be U;generalize letters a 6=ls at *;go_upto_region 5 with fail
  go_cut [9] (fun s9 wx=>∃ b:Bool,s9=.bool b∧(b=true->0<ls.length)∧Rd wx R (M+4)∧Dr R w4 wx)
  case first =>
   by_cases hl:0<ls.length
   ·go_wp2_with fail
    refine (zx G oM).mono ?_;rintro e w5 ⟨z,rfl,-,-,ae,J⟩;go_wp2_with fail
    go_meet;exact⟨_,rfl,fun _=>hl,ae,J⟩
   ·go_wp2_with fail
    go_meet;exact⟨false,rfl,fun h=>by (first|cases h|omega),G.more oM,Dr.refl _ _⟩
  case rest =>
   obtain⟨b,rfl,aK,ae,J⟩:=hcut;go_upto_if 42 with fail
   go_cut [] (fun wx=>∃ l:Nat,l<6∧Blk wx E 103 #[x,l,y]∧Blk wx w.heap.size 39 #[a,p,.slice A n c]∧Blk wx (w.heap.size+1) 39 #[(0:Int),(0:Int),()]∧Blk wx (w.heap.size+1+1) 39 #[a,p,()]∧Rd wx R (M+5)∧Dr R w wx)
   case first =>
    have aC:=aB.dr J oM;have aE:=aD.dr J oM;have ay:=ax.dr J oM;have au:=ar.dr J oM;have aN:=aL.trans J;clear aB aD ax ar aL G;cases b
    ·go_wp2_with fail
     go_meet;exact⟨0,oM,au,aC,aE,ay,ae.more oM,aN⟩
    ·have b9:=aK rfl;have bz:(1:Int)<=(ls.length:Int):=oM;clear aK;go_wp2_with fail
     refine (zx ae oM).mono ?_;rintro e w6 ⟨z,rfl,hz,-,hr6,hd6⟩;have cf:=hz bz;have bk:z<ls.length:=oM;obtain⟨ad,l,rfl,_,_,hl,ca⟩:=((am.dr J oM).dr hd6 oM).nat bk;have a9:=ba.out l (cX hl.out);have bs:=aC.dr hd6 oM;have bt:=aE.dr hd6 oM;have br:=ay.dr hd6 oM;have av:=au.dr hd6 oM;have bH:=aN.trans hd6;have cE:=av.cell;have fE:=av.frozen;have hf:=dE w6 E 1 (.int .i64 (l:Nat));clear hz aC aE ay au aN;go_wp2_with fail
     go_meet;exact⟨l,a9,by simpa using av.ab 1 (.int .i64 (l:Nat)),bs.frm hf oM,bt.frm hf oM,br.frm hf oM,(hr6.frm hf (fun k h1 h2=>oM)),bH.ag (by dsimp only;omega) _⟩
   case rest =>
    obtain⟨l,hl,bE,bS,bZ,bG,bD,a7⟩:=hcut;clear aB aD ax ar aL G J ae ba am bA aK;obtain⟨wB,bI⟩:∃ wB,wB=wc:=⟨_,rfl⟩;subst bI;have f:Acc w wB wB R (w.heap.size+1+1) (M+5) a p (.slice none 0 0) []:=⟨bG,World.ownsRow_nil _ _ _ _,bD,a7,Frm.refl _ _,hRl,a7.size,oM⟩;have b3:=bE.lt;have b5:=bG.lt;clear bG;go_wp2_with fail
    go_loopw [9,10] (fun v i wr=>∃ (b:Bool) (k:Nat),k<=n∧i=.int .i64 k∧v=.bool b∧∃ (u:Value) (m:List Edg),Acc w wB wr R (w.heap.size+1+1) (M+5) a p u m∧m.length+b.toNat<=k+1∧Hid (Few (p+1) m)) (fun _ i _=>n - (intOf i).toNat)
    case atStart=>exact⟨b,0,dD _,rfl,rfl,_,[],f,by cases b<;>decide,few_nil (p+1)⟩
    case round =>
     clear f;obtain⟨b,k,hk,rfl,rfl,u,m,f,o,F⟩:=hrel;have I:=bS.frm f.fr oM;have t:=bE.frm f.fr oM;have cS:=I.cell;have an:(0<=(x:Int)∧(x:Int)<((p+1:Nat):Int))∧(0<=(l:Int)∧(l:Int)<6)∧(0<=(y:Int)∧(y:Int)<((p+1:Nat):Int)):=oM
     by_cases hlt:k<n
     ·obtain⟨b0,o0,C,rfl,cb,b8,he,c0,c1,c2⟩:=(bb.dr f.dr oM).edge hlt;have a8:=za (aV.out C (cX he.out));go_upto_region 11 with fail
      clear cS
      go_cut [67] (fun s wx=>∃ q:Bool,s=.bool q∧(q=true->b=true)∧Ext wr wx)
      case first =>
       have cS:=I.cells;have cE:=t.cells;have C0:∀ W,Ext wr W->W.cell? ⟨b0,o0+k*3,none⟩=some (.int .i64 C.fr):=fun W hW=>hW.aa c0;have C1:∀ W,Ext wr W->W.cell? ⟨b0,o0+k*3+1,none⟩=some (.int .i64 C.le):=fun W hW=>hW.aa c1;have C2:∀ W,Ext wr W->W.cell? ⟨b0,o0+k*3+2,none⟩=some (.int .i64 C.ta):=fun W hW=>hW.aa c2;have bK:=cW wr;cases b
       ·go_wp2_with fail
        go_quiet (fail)
        go_wp2_with fail
        go_meet;exact⟨false,rfl,fun h=>h,(cW _).drewN _⟩
       ·go_wp2_with fail
        go_region_held3 (fun W=>Ext wr W) (first|assumption|(refine Ext.drew ?_;assumption)|(refine Ext.trans ?_ aM;assumption)|(refine Ext.trans ?_ aM;refine Ext.drew ?_;assumption)) ((go_at_call 123;refine (zdn (a:=⟨x,l,y⟩) (b:=C)).mono (mQ fun w5 cc=>?_)))
        go_wp2_with fail
        go_meet;exact⟨_,rfl,fun _=>by trivial,aM⟩
      case rest =>
       obtain⟨q,rfl,hq,H⟩:=hcut;replace f:=f.ext H;replace t:=t.ext H;go_upto_if 67 with fail
       go_cut [9] (fun s9 wx=>∃ (b:Bool) (u:Value) (m:List Edg),s9=.bool b∧Acc w wB wx R (w.heap.size+1+1) (M+5) a p u m∧m.length+b.toNat<=k+1∧Hid (Few (p+1) m))
       case first =>
        cases q
        ·go_wp2_with fail
         go_meet;exact⟨b,u,m,rfl,f,o,F⟩
        ·obtain rfl:=hq rfl;have cG:=f.blk.cell;have cE:=t.cell;simp only [Bool.toNat_true] at o;clear hq;go_wp2_with (at_builtin;refine zar wB _ rfl _ _ _ rfl 103 _ 3 24 Tryz.underlying37 zbg rfl dM u m.length (zu m) _ _ rfl rfl f.fr.size f.own rfl (by simp [Value.oneCell']) lM oM ?_;intro g cap w3 zjn hg3 hat3 hlt3;obtain⟨h1,h2,h3⟩:=f.push (e:=⟨x,l,y⟩) zjn hg3 hat3;have a4:=h1.out)
         go_meet;exact⟨false,_,_,rfl,h3,by simp;omega,zgi F.out an⟩
       case rest =>
        clear f o F I t c0 c1 c2 H hq;obtain⟨b,u,m,rfl,f,o,F⟩:=hcut;obtain⟨wr,aO⟩:∃ wr,wr=wc:=⟨_,rfl⟩;subst aO;have I:=bS.frm f.fr oM;have t:=bE.frm f.fr oM;obtain⟨c0,c1,c2⟩:=(bb.dr f.dr oM).edge2 he.out;go_upto_region 14 with fail
        go_cut [83] (fun s wx=>∃ q:Bool,s=.bool q∧Ext wr wx)
        case first =>
         have cS:=I.cells;have cE:=t.cells;have C0:∀ W,Ext wr W->W.cell? ⟨b0,o0+k*3,none⟩=some (.int .i64 C.fr):=fun W hW=>hW.aa c0;have C1:∀ W,Ext wr W->W.cell? ⟨b0,o0+k*3+1,none⟩=some (.int .i64 C.le):=fun W hW=>hW.aa c1;have C2:∀ W,Ext wr W->W.cell? ⟨b0,o0+k*3+2,none⟩=some (.int .i64 C.ta):=fun W hW=>hW.aa c2;have bK:=cW wr;cases b
         ·go_wp2_with fail
          go_quiet (fail)
          go_wp2_with fail
          go_meet;exact⟨false,rfl,(cW _).drewN _⟩
         ·go_wp2_with fail
          refine sR (fun X=>Ext wr X) [0,1,2,3,4,5,6,7,8,9] (fun hS=>?_);refine sQ ?_;have HE:=eq_edge (x:Int) (l:Int) (y:Int) C.fr C.le C.ta;refine seq_read (v:=.bool (((x:Int)==C.fr)&&(((l:Int)==C.le)&&((y:Int)==C.ta)))) rfl rfl rfl (fun X hX=>?_) aM ?_
          ·go_simp
          ·clear HE;refine pT ?_;generalize (((x:Int)==C.fr)&&(((l:Int)==C.le)&&((y:Int)==C.ta)))=q;refine sQ ?_;refine zcj ?_;go_wp2_with fail
           go_meet;exact⟨_,rfl,(cW _).drew⟩
        case rest =>
         obtain⟨q,rfl,H⟩:=hcut;replace f:=f.ext H;replace I:=I.ext H;replace c0:=H.aa c0;replace c1:=H.aa c1;replace c2:=H.aa c2;clear t H;go_upto_if 83 with fail
         go_cut [9] (fun s9 wx=>∃ b':Bool,s9=.bool b'∧b'.toNat<=b.toNat∧wc=wx)
         case first =>
          cases q
          ·go_wp2_with fail
           go_meet;exact⟨b,rfl,cY _,rfl⟩
          ·go_wp2_with fail
           go_meet;exact⟨false,rfl,dD _,rfl⟩
         case rest =>
          obtain⟨b',rfl,b6,bJ⟩:=hcut;subst bJ
          by_cases hgo:k=Y
          ·have bB:((k:Int) != (Y:Int))=false:=by simp [hgo]
           have bY:=za hgo;clear hgo;go_wp2_with fail
           go_roundw
           case rel=>exact⟨b',k+1,oM,gM,rfl,u,m,f,oM,F⟩
           case measure=>simp [intOf];omega
          ·have bB:((k:Int) != (Y:Int))=true:=by simp;omega
           clear hgo;obtain⟨wr,aO⟩:∃ wr,wr=wc:=⟨_,rfl⟩;subst aO;have cS:=I.cells;have cG:=fun W (hW:Ext wr W)=>(f.blk.ext hW).cell;have C0:∀ W,Ext wr W->W.cell? ⟨b0,o0+k*3,none⟩=some (.int .i64 C.fr):=fun W hW=>hW.aa c0;have C1:∀ W,Ext wr W->W.cell? ⟨b0,o0+k*3+1,none⟩=some (.int .i64 C.le):=fun W hW=>hW.aa c1;have C2:∀ W,Ext wr W->W.cell? ⟨b0,o0+k*3+2,none⟩=some (.int .i64 C.ta):=fun W hW=>hW.aa c2;go_wp2_with fail
           refine tR (fun X=>Ext wr X) [8,10] (Ord.of [0,1,2,3,4,5,6,7,8,9,10]) ?_;refine tQ ?_;refine zA fun K hK=>?_;go_simp;refine hK.out _ _ ((cW _).drew.alloc _) ?_;refine pT ?_;refine zJ fun K hK=>?_;refine zaL wB wr.drew _ _ _ rfl 103 _ 3 24 Tryz.underlying37 zbg rfl dM u m.length (zu m) _ _ rfl rfl f.fr.size f.own rfl (by simp [Value.oneCell']) lM oM ?_;intro g cap w3 zjn hg3 hat3 hlt3;refine hK.out _ _ ?_;refine pT ?_;refine tQ ?_;obtain⟨h1,h2,h3⟩:=(f.ext ((cW _).drew)).push (e:=C) (W':=w3) zjn hg3 hat3;have a4:=h1.out;refine zJ fun K hK=>?_;go_simp;refine hK.out _ _ ?_;refine zai ?_;go_wp2_with fail
           go_roundw
           case rel=>exact⟨b',k+1,oM,gM,rfl,_,_,h3,by simp;omega,zgi F.out a8.out⟩
           case measure=>simp [intOf];omega
     ·obtain rfl:k=n:=oM;go_upto_if 97 with fail
      go_cut [] (fun wx=>∃ (u:Value) (m:List Edg),Acc w wB wx R (w.heap.size+1+1) (M+5) a p u m∧m.length<=k+1∧Hid (Few (p+1) m))
      case first =>
       cases b
       ·go_wp2_with fail
        go_meet;exact⟨u,m,f,by simpa using o,F⟩
       ·have cG:=f.blk.cell;have cE:=t.cell;simp only [Bool.toNat_true] at o;go_wp2_with (at_builtin;refine zar wB _ rfl _ _ _ rfl 103 _ 3 24 Tryz.underlying37 zbg rfl dM u m.length (zu m) _ _ rfl rfl f.fr.size f.own rfl (by simp [Value.oneCell']) lM oM ?_;intro g cap w3 zjn hg3 hat3 hlt3;obtain⟨h1,h2,h3⟩:=f.push (e:=⟨x,l,y⟩) zjn hg3 hat3;have a4:=h1.out)
        go_meet;exact⟨_,_,h3,by simp;omega,zgi F.out an⟩
      case rest =>
       clear f o F cS I t;obtain⟨u,m,f,o,F⟩:=hcut;obtain⟨A',n',c',rfl⟩:=f.form;obtain⟨rfl,_⟩:=f.reads;have bQ:=zgT f.own;have cG:=f.blk.cell;have a3:=bZ.frm f.fr oM;have cz:=a3.cell;have cg:=bZ.lt;have fz:=a3.frozen;obtain⟨f1,f2,f3⟩:=f.fin (Z:=w.heap.size+1) oM oM (.int .i64 a) (.int .i64 p) (.slice A' m.length c');have aW:=za (show RetA R (M+10) (L+1) w (.returned (.agg #[a,p,.slice A' m.length c'])) _ from ⟨⟨a,p,m⟩,A',m.length,c',rfl,f1,oM,f2.more oM,f3⟩);clear f1 f2 f3;go_wp2_with fail
       exact bodyPost_ret (v:=.agg #[a,p,.slice A' m.length c']) (by simp [results,Tryz.results72,go_sem,cz]) rfl aW.out
theorem zem (h:Rd w R M)(hM:M<=900000000)(hs:zbp w R A n s)(hf:Fair s)(hn:n<=L)(hL:L<=100000) :
  Calls Tryz.prog 72 #[.pointer (some R),.agg #[s.al,s.st,.slice A n c]] w (RetA R (M+10) (L+1) w):=by
 obtain⟨al,st,j⟩:=s;obtain⟨a,p,b,g,d,i,f⟩:=hf;simp only at b d f;subst b;subst d;exact zhF h hM hs g i f hn hL
theorem yQ04a1 {P:Prop}(h:P:=by
 go_wp2_with (at_builtin;refine zL w wr rfl _ _ _ rfl 9 _ 1 16 Tryz.underlying61 zo rfl dM u5 _ _ _ _ rfl rfl zje zjc rfl (zbZ _) lM oM ?_;intro v' w1 hext1 zjl hg1 hat1)
 go_roundw
 case rel=>exact⟨k+1,k+1,l++[s.extract m k],oM,gM,oM,gM,by simp;omega,by simpa [zM] using zjl,hall.out,aM⟩
 case measure=>simp [intOf];omega
 ):P:=h
theorem spec_l19CutC {s:ByteArray} (hs:s.size<=1000000) :
  Calls Tryz.prog 78 #[s,.int .u8 44] w (RetStrs s.size (s.size+1) w):=by
 go_enter Tryz.func78,Tryz.ntmps78
 go_wp2_with fail
 go_loopw [5,6,7] (fun v f i wr=>∃ (k m:Nat) (l:List ByteArray),k<=s.size+1∧i=.int .i64 k∧m<=k∧f=.int .i64 m∧l.length<=k∧wr.ownsRow w.heap.size 9 1 v l.length (zM l)∧Hid (∀ x∈l,x.size<=s.size)∧Ext w wr) (fun _ _ i _=>s.size+1 - (intOf i).toNat)
 case atStart=>exact⟨0,0,[],dD _,rfl,cY _,rfl,cY _,World.ownsRow_lit w #[] 0 (cY _) lM rfl,(fun x hx=>by cases hx),(cW _).alloc _⟩
 case round =>
  obtain⟨k,m,l,q,rfl,t,rfl,r,zjc,a,zje⟩:=hrel
  by_cases hle:k<=s.size
  ·have j:(k:Int)<=(s.size:Int):=oM;have n:(m:Int)<=(k:Int):=oM;have g:=za (show (s.extract m k).size<=s.size by rw [ByteArray.size_extract];omega);have hall:=za (show ∀ x∈l++[s.extract m k],x.size<=s.size from fun x hx=>by
    rcases List.mem_append.1 hx with b|b
    ·exact a.out x b
    ·rw [List.mem_singleton.1 b];exact g.out)
   by_cases he:k=s.size
   ·have d:((k:Int)==(s.size:Int))=true:=by simp [he]
    have o:=za he;clear he;exact yQ04a1
   ·have d:((k:Int)==(s.size:Int))=false:=by rw [beq_eq_false_iff_ne];omega
    have h:k<s.size:=oM;have p:=zbS s k h;cases hc:((s[k].toNat:Int)==44)
    ·go_wp2_with fail
     go_roundw
     case rel=>exact⟨k+1,m,l,oM,gM,oM,rfl,oM,zjc,a,zje⟩
     case measure=>simp [intOf];omega
    ·exact yQ04a1
  ·obtain rfl:k=s.size+1:=oM;obtain⟨A,c,rfl⟩:=zi zjc;go_wp2_with fail
   go_ret;exact⟨A,_,c,l,rfl,rfl,zjc,a.out,oM,zje⟩
def RetIntsS (N:Nat) (w:World) (e:Ending) (w':World):Prop:=∃ (A:Option Addr) (n c:Nat) (l:List Int) (ok:Bool),e=.returned (.tuple #[.slice A n c,.bool ok])∧n=l.length∧w'.ownsRow w.heap.size 3 1 (.slice A n c) n (ints l)∧n<=N∧Ext w w'
theorem spec_l3Parse {s:ByteArray} (hs:s.size<=1000) :
  Calls Tryz.prog 80 #[s] w (RetIntsS (s.size+1) w):=by
 have g:=World.ownsRow_lit (base:=w.heap.size) (e:=3) (size:=1) w #[] 0 (cY _) lM rfl
 go_enter Tryz.func80,Tryz.ntmps80
 go_upto_region 2 with fail
 obtain⟨K,hK⟩:∃ K,Hid (K=w.heap.size):=⟨_,za rfl⟩;rw [← hK.out] at g ⊢;generalize U0:w.alloc _=w1 at *;have r:=Ext.al_ U0;clear U0;cases he:s.toList.isEmpty
 ·go_wp2_with fail
  refine (spec_l19CutC (s:=s) oM).mono ?_;rintro e T ⟨B,m,d,l,rfl,o,t,n,J,c⟩;have q:=r.trans c;have h:=zg g c;have z:=za n;have M:=za o;have G:m<=s.size+1:=J;clear n o g he J;go_wp2_with fail
  go_loopw [4,6] (fun v iv wr=>∃ (k:Nat) (f:List Int),k<=m∧iv=.int .i64 (k:Nat)∧wr.ownsRow K 3 1 v k (ints f)∧Hid (f.length=k)∧wr.ownsRow w1.heap.size 9 1 (.slice B m d) m (zM l)∧Ext w wr) (fun _ iv _=>m - (intOf iv).toNat)
  case atStart=>exact⟨0,[],dD _,rfl,h,za rfl,t,q⟩
  case round =>
   clear h t q c;obtain⟨k,f,S,rfl,p,i,a,u⟩:=hrel;obtain⟨y,C,rfl⟩:=zi p
   by_cases hlt:k<m
   ·obtain⟨R,rfl,-,-⟩:=zac a oM;obtain⟨Q,L,D,-,-,I,F⟩:=(dY a).str hlt;obtain rfl:=Option.some.inj D;rw [zK,dS] at F;have E:=za (z.out L (cX I.out));go_wp2_with fail
    refine (zdl (s:=L) (oH E.out)).mono ?_;rintro e U ⟨x,O,rfl,rfl⟩;cases O
    ·go_wp2_with fail
     exact bodyPost_ret (v:=.tuple #[(),.bool false]) (by simp [results,Tryz.results80,go_sem]) rfl ⟨none,0,0,[],false,rfl,rfl,World.ownsRow_nil _ _ _ _,oM,u⟩
    ·have H:=u.size;go_wp2_with (at_builtin;refine zar w wr rfl _ _ _ rfl 3 _ 1 8 Tryz.underlying74 zae rfl dM (.slice y k C) k (ints f) _ _ rfl rfl H (by rw [← hK.out];exact p) rfl (by simp [Value.oneCell']) lM oM ?_;intro g5 cap5 w5 zjo hg5 hat5 hlt5)
     go_roundw
     case rel=>exact⟨k+1,f++[x],oM,gM,by rw [hK.out];simpa [ints] using zjo,za (by have:=i.out;simp;omega),zf a (Frm.ae hg5) (fun b hb hS=>zaM a p dM hb hS),u.grown hg5 (fun j hj=>by have:=(p.lt j hj).1;have:=hK.out;omega)⟩
     case measure=>simp [intOf];omega
   ·obtain rfl:k=m:=oM;go_wp2_with fail
    exact bodyPost_ret (v:=.tuple #[.slice y k C,.bool true]) (by simp [results,Tryz.results80,go_sem]) rfl ⟨y,k,C,f,true,rfl,i.out.symm,by rw [← hK.out];exact p,G,u⟩
 ·go_wp2_with fail
  exact bodyPost_ret (v:=.tuple #[.slice (some K) 0 0,.bool true]) (by simp [results,Tryz.results80,go_sem]) rfl ⟨some ⟨w.heap.size,0,none⟩,0,0,[],true,by rw [hK.out],rfl,by rw [hK.out] at g;exact g,oM,r⟩
def RetStrs1 (L N:Nat) (w:World) (e:Ending) (w':World):Prop:=∃ (A:Option Addr) (n c:Nat) (l:List ByteArray),e=.returned (.slice A n c)∧n=l.length∧0<n∧w'.ownsRow w.heap.size 9 1 (.slice A n c) n (zM l)∧(∀ x∈l,x.size<=L)∧n<=N∧Ext w w'
theorem spec_l19Cut1 {s:ByteArray} (hs:s.size<=1000000) :
  Calls Tryz.prog 78 #[s,.int .u8 32] w (RetStrs1 s.size (s.size+1) w):=by
 go_enter Tryz.func78,Tryz.ntmps78
 go_wp2_with fail
 go_loopw [5,6,7] (fun v f i wr=>∃ (k m:Nat) (l:List ByteArray),k<=s.size+1∧i=.int .i64 k∧m<=k∧f=.int .i64 m∧l.length<=k∧wr.ownsRow w.heap.size 9 1 v l.length (zM l)∧Hid (∀ x∈l,x.size<=s.size)∧Ext w wr∧Hid (s.size<k->0<l.length)) (fun _ _ i _=>s.size+1 - (intOf i).toNat)
 case atStart=>exact⟨0,0,[],dD _,rfl,cY _,rfl,cY _,World.ownsRow_lit w #[] 0 (cY _) lM rfl,(fun x hx=>by cases hx),(cW _).alloc _,za (fun hh=>absurd hh oM)⟩
 case round =>
  obtain⟨k,m,l,r,rfl,u,rfl,t,zjc,a,zje,b⟩:=hrel
  by_cases hle:k<=s.size
  ·have n:(k:Int)<=(s.size:Int):=oM;have o:(m:Int)<=(k:Int):=oM;have h:=za (show (s.extract m k).size<=s.size by rw [ByteArray.size_extract];omega);have hall:=za (show ∀ x∈l++[s.extract m k],x.size<=s.size from fun x hx=>by
    rcases List.mem_append.1 hx with d|d
    ·exact a.out x d
    ·rw [List.mem_singleton.1 d];exact h.out)
   by_cases he:k=s.size
   ·have g:((k:Int)==(s.size:Int))=true:=by simp [he]
    have p:=za he;clear he;go_wp2_with (at_builtin;refine zL w wr rfl _ _ _ rfl 9 _ 1 16 Tryz.underlying61 zo rfl dM u5 _ _ _ _ rfl rfl zje zjc rfl (zbZ _) lM oM ?_;intro v' w1 hext1 zjl hg1 hat1)
    go_roundw
    case rel=>exact⟨k+1,k+1,l++[s.extract m k],oM,gM,oM,gM,by simp;omega,by simpa [zM] using zjl,hall.out,aM,za (fun _=>sM)⟩
    case measure=>simp [intOf];omega
   ·have g:((k:Int)==(s.size:Int))=false:=by rw [beq_eq_false_iff_ne];omega
    have j:k<s.size:=oM;have q:=zbS s k j;cases hc:((s[k].toNat:Int)==32)
    ·go_wp2_with fail
     go_roundw
     case rel=>exact⟨k+1,m,l,oM,gM,oM,rfl,oM,zjc,a,zje,za (fun hh=>absurd hh oM)⟩
     case measure=>simp [intOf];omega
    ·go_wp2_with (at_builtin;refine zL w wr rfl _ _ _ rfl 9 _ 1 16 Tryz.underlying61 zo rfl dM u5 _ _ _ _ rfl rfl zje zjc rfl (zbZ _) lM oM ?_;intro v' w1 hext1 zjl hg1 hat1)
     go_roundw
     case rel=>exact⟨k+1,k+1,l++[s.extract m k],oM,gM,oM,gM,by simp;omega,by simpa [zM] using zjl,hall.out,aM,za (fun _=>sM)⟩
     case measure=>simp [intOf];omega
  ·obtain rfl:k=s.size+1:=oM;obtain⟨A,c,rfl⟩:=zi zjc;go_wp2_with fail
   go_ret;exact⟨A,_,c,l,rfl,rfl,b.out oM,zjc,a.out,oM,zje⟩
def RetParA (R M L:Nat) (w:World) (e:Ending) (w':World):Prop:=
 ∃ (b:Aut) (A:Option Addr) (n c:Nat) (A':Option Addr) (n' c':Nat) (ok:Bool),e=.returned (.tuple #[.agg #[b.al,.slice A n c,.slice A' n' c'],.bool ok])∧zX w' w.heap.size A n c A' n' c' b∧Hid (BdA L b)∧Rd w' R M∧Dr R w w'
theorem ziD (hR:R<w.heap.size)(h:Rd W R M)(hd:Dr R w W)(hZ:w.heap.size<=Z) :
  Hid (RetParA R M L w (.returned (.tuple #[.agg #[(0:Int),(),()],.bool false])) (((W.setCell Z (0:Int)).setCell ⟨Z,1,none⟩ ()).setCell ⟨Z,2,none⟩ ())):=
 za ⟨⟨0,[],[]⟩,none,0,0,none,0,0,false,rfl,⟨⟨[],World.ownsRow_nil _ _ _ _,zG.nil _ _⟩,rfl,World.ownsRow_nil _ _ _ _,rfl⟩,za ⟨dD _,dD _,fun l hl=>by simp at hl⟩,h.frm (zaD W Z _ _ _) (fun k hk e=>oM),((hd.ag (p:=⟨Z,0,none⟩) hZ _).ag (p:=⟨Z,1,none⟩) hZ _).ag (p:=⟨Z,2,none⟩) hZ _⟩
theorem yQ04a3 {P:Prop}(h:P:=by
 go_wp2_with fail
 have hfb:=zal bz4 rfl (.int .i64 0) (.slice none 0 0) (.slice none 0 0);have cf:=hfb.cell;exact bodyPost_ret (v:=.tuple #[.agg #[(0:Int),(),()],.bool false]) (by simp [results,Tryz.results38,go_sem,cf]) rfl hno4.out
 ):P:=h
theorem yQ04a4 {P:Prop}(h:P:=by
 have cf:=hfb.cell;exact bodyPost_ret (v:=.tuple #[.agg #[(0:Int),(),()],.bool false]) (by simp [results,Tryz.results38,go_sem,cf]) rfl hno.out
 ):P:=h
theorem zeJ {x:ByteArray} (h:Rd w R M)(hx:x.size<=1000) :
  Calls Tryz.prog 38 #[x] w (RetParA R M (x.size+1) w):=by
 have hRl:=h.lt
 go_enter Tryz.func38,Tryz.ntmps38
 go_wp2_with fail
 generalize U0:w.alloc _=w0 at *;have o:=Ext.al_ U0;have bz:=Ext.bl_ U0;have aW:=bz.lt;clear U0;refine (spec_l19Cut1 (s:=x) oM).mono ?_;rintro e w1 ⟨B,m,d,l,rfl,aq,ae,zjl,y,hm,aV⟩;have aF:=za y;have bi:=za aq;have bF:m<=1001:=oM;clear y aq;obtain⟨gB,rfl,bC,-⟩:=zac zjl ae;obtain⟨ad,x0,Y,-,-,bc,am⟩:=(dY zjl).str (k:=0) ae;obtain rfl:=Option.some.inj Y;rw [zK,Nat.add_zero] at am;have ba:(0:Int)<(m:Int):=oM;go_wp2_with fail
 refine (zcC (x:=x0)).mono ?_;rintro e w2 ⟨al,aY,rfl,ha,aw⟩;have u:=aV.trans aw;have V:=bz.ext u;have aG:=V.cell;have aH:=V.frozen;have hno:=ziD (L:=x.size+1) (M:=M) (Z:=w.heap.size) hRl (h.ext (o.trans u)) (o.trans u).dr (cY _);cases aY
 ·go_wp2_with fail
  have hfb:=zal V rfl (.int .i64 0) (.slice none 0 0) (.slice none 0 0);exact yQ04a4
 ·have bG:=dT w2 26 #[al,(),()];have af:=(cW w2).alloc (.cells #[al,(),()] 26);have aS:=u.size;have aB:=zg zjl aw;have bA:=za (show ∀ W,Ext w2 W->Ext w W from fun W hW=>(o.trans u).trans hW);go_upto_region 6 with fail
  have aC:=zg aB af;have f:zbv w0 (w2.alloc (.cells #[al,(),()] 26)) R w2.heap.size M al (.slice none 0 0) [] [] (.slice none 0 0) []:=⟨bG,World.ownsRow_nil _ _ _ _,zG.nil _ _,World.ownsRow_nil _ _ _ _,(h.ext (o.trans u)).ext af,(u.trans af).dr,oM,aS⟩;generalize w2.alloc _=w3 at *;generalize w2.heap.size=G at *;clear hno aG aH am aB;go_wp2_with fail
  go_loopw [8] (fun iv wr=>∃ (i:Nat) (v:Value) (q:List Value) (n:List (List Int)) (vA:Value) (g:List Bool),1<=i∧i<=m∧iv=.int .i64 (i:Nat)∧zbv w0 wr R G M al v q n vA g∧Hid (n.length<=i - 1)∧Hid (g.length=n.length)∧Hid (∀ l∈n,l.length<=x.size+1)∧wr.ownsRow w0.heap.size 9 1 (.slice (some gB) m d) m (zM l)) (fun iv _=>m - (intOf iv).toNat)
  case atStart=>exact⟨1,_,_,[],_,[],cY _,ae,rfl,f,za (dD _),za rfl,za (fun l hl=>by simp at hl),aC⟩
  case round =>
   clear f aC;obtain⟨i,v,q,n,vA,g,bD,hi,rfl,f,F,aa,y,H⟩:=hrel;have hno:=ziD (L:=x.size+1) (M:=M) (Z:=w.heap.size) hRl f.rd (o.dr.trans f.dr) (cY _);have D:=bz.dr f.dr oM
   by_cases hlt:i<m
   ·obtain⟨ad,C,Y,-,-,ax,an⟩:=(dY H).str hlt;obtain rfl:=Option.some.inj Y;rw [zK,dS] at an;have bx:=aF.out C (cX ax.out);cases he:C.toList.isEmpty
    ·have bt:1<=C.size:=by
      rcases Nat.eq_zero_or_pos C.size with h0|h0
      ·rw [ByteArray.toList_eq] at he;have e2:C.data.toList.length=C.size:=rfl;rw [List.eq_nil_of_length_eq_zero (e2.trans h0)] at he;cases he
      ·exact h0
     have a8:(1:Int)<=(C.size:Int):=oM;have bB:(C.extract 1 C.size).size<=x.size:=by rw [ByteArray.size_extract];omega
     go_wp2_with fail
     refine (spec_l3Parse (s:=C.extract 1 C.size) oM).mono ?_;rintro e w4 ⟨Ar,nr,cr,lr,ok,rfl,aP,au,bH,j⟩;cases ok
     ·have hno4:=ziD (L:=x.size+1) (M:=M) (Z:=w.heap.size) hRl (f.rd.ext j) ((o.dr.trans f.dr).ext j) (cY _);have bz4:=D.ext j;have cz:=bz4.cell;have fz:=bz4.frozen;exact yQ04a3
     ·subst aP;have ao:=za f.low;have aR:=za f.dr.size;have c:=f.ext j;have r:=zg H j;have cG:=c.blk.cell;have aT:=c.dr.size;have bE:n.length<=1001:=oH F.out;have aj:=za ax.out;have ar:=hno;clear f H an hno ar;go_upto_region 15 with (at_builtin;refine zar w0 w4 rfl _ _ _ rfl 74 _ 1 24 Tryz.underlying23 zcd rfl dM v n.length q _ _ rfl rfl aT c.nx rfl (zaU _ _ _) lM oM ?_;intro g5 cap5 w6 hown6 hg6 hat6 hlt6;obtain⟨q1,q2,q3⟩:=c.ar ao.out aR.out au hown6 hg6 hat6;have aZ:=q1.out;have t:=(zf r (Frm.ae hg6) (fun b hb hS=>zaM r c.nx dM hb hS)))
      have I:=zf t (dE w6 G 1 (.slice (some g5) (n.length+1) cap5)) (fun b hb hS=>by
       have aL:Blk w6 G 26 #[.int .i64 al,v,vA]:=(hg6.block G c.blk.lt (fun e=>zq c.nx c.blk dM e.symm rfl)).trans c.blk;exact zq t aL dM hb hS)
      have T:=za (show (n++[lr]).length<=i by have:=F.out;simp;omega);have S:=za (show g.length+1=(n++[lr]).length by have:=aa.out;simp;omega);have ap:=za (show ∀ l'∈n++[lr],l'.length<=x.size+1 from fun l' hl'=>by
       rcases List.mem_append.1 hl' with h1|h1
       ·exact y.out l' h1
       ·rw [List.mem_singleton.1 h1];omega)
      clear q1 aZ q2 hown6 hg6 hat6 hlt6 t r c cG F aa y au;generalize n++[lr]=aX at *;generalize q++[.slice Ar lr.length cr]=a1 at *;generalize w6.setCell ⟨G,1,none⟩ (.slice (some g5) (n.length+1) cap5)=w7 at *;generalize Value.slice (some g5) (n.length+1) cap5=v7 at *;obtain⟨bk,z,ak,-,-,U,E⟩:=(dY I).str hlt;obtain rfl:=Option.some.inj ak;rw [zK,dS] at E;obtain rfl:z=C:=Option.some.inj (U.out.symm.trans aj.out);have cG:=fun W (hW:Ext w7 W)=>(q3.blk.ext hW).cell;have cS:∀ W,Ext w7 W->W.cell? ⟨gB,i,none⟩=some (.string z):=fun W hW=>hW.aa E;have aJ:0<z.size:=oM;have a7:(0:Int)<(z.size:Int):=oM;have bu:=zbS z 0 aJ;obtain⟨bb,bw⟩:∃ bb,((z[0].toNat:Int)==43)=bb:=⟨_,rfl⟩;have aU:=cW w7;clear E U aj;refine uR (fun X=>Ext w7 X) [9,11] (zw.of [0,1,2,3,4,5,6,7,8,9,10,11]) ?_;refine uQ ?_;have ag:=aU.drew;refine zd fun K hK=>?_;go_simp;refine hK.out _ _ (ag.alloc _) ?_;refine pT ?_;refine zb fun K hK=>?_;have bI:=q3.dr.size;have p:=q3.ext ag;have a9:g.length<=1001:=by have:=S.out;have:=T.out;omega
      have J:=zg I ag;refine zaL w0 w7.drew _ _ _ rfl 4 _ 1 1 Tryz.underlying24 zbf rfl dM vA g.length (zaA g) _ _ rfl rfl p.dr.size p.acc rfl (by simp [Value.oneCell']) lM oM ?_;intro g8 cap8 w8 hown8 hg8 hat8 hlt8;refine hK.out _ _ ?_;refine pT ?_;refine uQ ?_;obtain⟨p1,p2,p3⟩:=p.ao (x:=bb) (W':=w8) hown8 hg8 hat8;have bN:=p1.out;have O:=zf J (Frm.ae hg8) (fun b hb hS=>zaM J p.acc dM hb hS);have Q:=zf O (dE w8 G 2 (.slice (some g8) (g.length+1) cap8)) (fun b hb hS=>by
       have aN:Blk w8 G 26 #[.int .i64 al,v7,vA]:=(hg8.block G p.blk.lt (fun e=>zq p.acc p.blk dM e.symm rfl)).trans p.blk;exact zq O aN dM hb hS)
      refine zb fun K hK=>?_;go_simp;refine hK.out _ _ ?_;refine ze ?_;go_wp2_with fail
      go_roundw
      case rel=>exact⟨i+1,_,_,aX,_,g++[bb],oM,oM,gM,p3,za (oH T.out),za (by have:=S.out;simp;omega),ap,Q⟩
      case measure=>simp [intOf];omega
    ·have cz:=D.cell;have fz:=D.frozen;go_wp2_with fail
     have hfb:=zal D rfl (.int .i64 0) (.slice none 0 0) (.slice none 0 0);exact yQ04a4
   ·obtain⟨A5,c5,rfl⟩:=zi f.nx;obtain⟨B5,d5,rfl⟩:=zi f.acc;have aO:zI wr w0.heap.size wr.heap.size A5 n.length B5 g.length (⟨al,n,g⟩:Aut):=⟨zes.reads ⟨q,f.nx,f.rows⟩ rfl,rfl,dY f.acc⟩;have cG:=f.blk.cell;clear hno;go_wp2_with fail
    refine (zeb (a:=⟨al,n,g⟩) aO).mono ?_;rintro e w4 ⟨tx,rfl,-,j⟩;have c:=f.ext j;have hno4:=ziD (L:=x.size+1) (M:=M) (Z:=w.heap.size) hRl (f.rd.ext j) ((o.dr.trans f.dr).ext j) (cY _);have bz4:=D.ext j;have cz:=bz4.cell;have fz:=bz4.frozen;have bp:=c.blk.cell;clear cG;cases hne:tx.toList==x.toList
    ·exact yQ04a3
    ·obtain⟨f1,f2⟩:=c.fin (N:=M) (sh:=BdA (x.size+1)) o bz rfl hRl (cY _) aW (cY _) ⟨by have:=F.out;show n.length<=_;omega,by have:=F.out;have:=aa.out;show g.length<=_;omega,y.out⟩;go_wp2_with fail
     have cf:=f2.cell;obtain⟨b,A6,n6,c6,A7,n7,c7,he,aQ,av,hr6,hd6⟩:=f1.out;exact bodyPost_ret (v:=.tuple #[.agg #[al,.slice A5 n.length c5,.slice B5 g.length d5],.bool true]) (by simp [results,Tryz.results38,go_sem,cf]) rfl ⟨b,A6,n6,c6,A7,n7,c7,true,by injection he with he;rw [he],aQ,av,hr6,hd6⟩
def Texts3 (W:World) (base g n:Nat):Prop:=
 ∀ k<n,∃ (b:Nat) (l:List ByteArray),W.cell? ⟨g,k,none⟩=some (.slice (some b) 3 3)∧l.length=3∧((∀ x∈l,x.size<=100)∧∀ x,l[2]?=some x->x.size<=40)∧W.ownsRow base 9 1 (.slice (some b) 3 3) 3 (zM l)
def RetT3 (w:World) (e:Ending) (w':World):Prop:=∃ g,e=.returned (.slice (some ⟨g,0,none⟩) 9 9)∧w.heap.size<=g∧Texts3 w' w.heap.size g 9∧Ext w w'
def Sh3 (u:Array Value):Prop:=zM (u.toList.map ziV)=u.toList∧u.size=3∧(∀ x∈u.toList.map ziV,x.size<=100)∧∀ x∈(u.toList.map ziV).drop 2,x.size<=40
theorem Sh3.ak {u:Array Value}(h:Sh3 u):(u.toList.map ziV).length=3∧(∀ x∈u.toList.map ziV,x.size<=100)∧∀ x,(u.toList.map ziV)[2]?=some x->x.size<=40:=by
 obtain⟨-,a,b,c⟩:=h;refine⟨by simp [a],b,fun x hx=>c x ?_⟩;have d:=(List.getElem?_eq_some_iff.1 hx).1;rw [List.mem_iff_getElem?];exact⟨0,by rw [List.getElem?_drop];exact hx⟩
theorem lit9 (w:World) {u1 u2 u3 u4 u5 u6 u7 u8 u9:Array Value}(h1:Sh3 u1)(h2:Sh3 u2)(h3:Sh3 u3)(h4:Sh3 u4)(h5:Sh3 u5)(h6:Sh3 u6)(h7:Sh3 u7)(h8:Sh3 u8)(h9:Sh3 u9) :
  RetT3 w (.returned (.slice (some ⟨w.heap.size+9,0,none⟩) 9 9)) ((((((((((w.alloc (.cells u1 9)).alloc (.cells u2 9)).alloc (.cells u3 9)).alloc (.cells u4 9)).alloc (.cells u5 9)).alloc (.cells u6 9)).alloc (.cells u7 9)).alloc (.cells u8 9)).alloc (.cells u9 9)).alloc (.cells #[.slice (some w.heap.size) 3 3,.slice (some ⟨w.heap.size+1,0,none⟩) 3 3,.slice (some ⟨w.heap.size+2,0,none⟩) 3 3,.slice (some ⟨w.heap.size+3,0,none⟩) 3 3,.slice (some ⟨w.heap.size+4,0,none⟩) 3 3,.slice (some ⟨w.heap.size+5,0,none⟩) 3 3,.slice (some ⟨w.heap.size+6,0,none⟩) 3 3,.slice (some ⟨w.heap.size+7,0,none⟩) 3 3,.slice (some ⟨w.heap.size+8,0,none⟩) 3 3] 61)):=by
 have R:=zbl w h1.1 h1.2.1 oM;have U:=(cW w).alloc (.cells u1 9);have v:(w.alloc (.cells u1 9)).heap.size=w.heap.size+1:=sM;generalize w.alloc (.cells u1 9)=w1 at *;have n:=zbl w1 h2.1 h2.2.1 oM;have V:=(cW w1).alloc (.cells u2 9);have x:(w1.alloc (.cells u2 9)).heap.size=w.heap.size+2:=by simp [v]
 rw [v] at n;generalize w1.alloc (.cells u2 9)=b at *;have o:=zbl b h3.1 h3.2.1 oM;have X:=(cW b).alloc (.cells u3 9);have y:(b.alloc (.cells u3 9)).heap.size=w.heap.size+3:=by simp [x]
 rw [x] at o;generalize b.alloc (.cells u3 9)=c at *;have p:=zbl c h4.1 h4.2.1 oM;have Y:=(cW c).alloc (.cells u4 9);have z:(c.alloc (.cells u4 9)).heap.size=w.heap.size+4:=by simp [y]
 rw [y] at p;generalize c.alloc (.cells u4 9)=d at *;have q:=zbl d h5.1 h5.2.1 oM;have Z:=(cW d).alloc (.cells u5 9);have B:(d.alloc (.cells u5 9)).heap.size=w.heap.size+5:=by simp [z]
 rw [z] at q;generalize d.alloc (.cells u5 9)=f at *;have r:=zbl f h6.1 h6.2.1 oM;have x6:=(cW f).alloc (.cells u6 9);have C:(f.alloc (.cells u6 9)).heap.size=w.heap.size+6:=by simp [B]
 rw [B] at r;generalize f.alloc (.cells u6 9)=g at *;have s:=zbl g h7.1 h7.2.1 oM;have x7:=(cW g).alloc (.cells u7 9);have D:(g.alloc (.cells u7 9)).heap.size=w.heap.size+7:=by simp [C]
 rw [C] at s;generalize g.alloc (.cells u7 9)=h at *;have t:=zbl h h8.1 h8.2.1 oM;have x8:=(cW h).alloc (.cells u8 9);have E:(h.alloc (.cells u8 9)).heap.size=w.heap.size+8:=by simp [D]
 rw [D] at t;generalize h.alloc (.cells u8 9)=i at *;have u:=zbl i h9.1 h9.2.1 oM;have x9:=(cW i).alloc (.cells u9 9);have S:(i.alloc (.cells u9 9)).heap.size=w.heap.size+9:=by simp [E]
 rw [E] at u;generalize i.alloc (.cells u9 9)=l at *;have a:=dT l 61 #[.slice (some w.heap.size) 3 3,.slice (some ⟨w.heap.size+1,0,none⟩) 3 3,.slice (some ⟨w.heap.size+2,0,none⟩) 3 3,.slice (some ⟨w.heap.size+3,0,none⟩) 3 3,.slice (some ⟨w.heap.size+4,0,none⟩) 3 3,.slice (some ⟨w.heap.size+5,0,none⟩) 3 3,.slice (some ⟨w.heap.size+6,0,none⟩) 3 3,.slice (some ⟨w.heap.size+7,0,none⟩) 3 3,.slice (some ⟨w.heap.size+8,0,none⟩) 3 3];have m:=(cW l).alloc (.cells #[.slice (some w.heap.size) 3 3,.slice (some ⟨w.heap.size+1,0,none⟩) 3 3,.slice (some ⟨w.heap.size+2,0,none⟩) 3 3,.slice (some ⟨w.heap.size+3,0,none⟩) 3 3,.slice (some ⟨w.heap.size+4,0,none⟩) 3 3,.slice (some ⟨w.heap.size+5,0,none⟩) 3 3,.slice (some ⟨w.heap.size+6,0,none⟩) 3 3,.slice (some ⟨w.heap.size+7,0,none⟩) 3 3,.slice (some ⟨w.heap.size+8,0,none⟩) 3 3] 61);rw [S] at a;generalize l.alloc _=T at *;have Q:=m;have O:=x9.trans Q;have M:=x8.trans O;have L:=x7.trans M;have J:=x6.trans L;have I:=Z.trans J;have H:=Y.trans I;have G:=X.trans H;have F:=V.trans G;refine⟨_,rfl,oM,fun k hk=>?_,U.trans F⟩;have j:k=0∨k=1∨k=2∨k=3∨k=4∨k=5∨k=6∨k=7∨k=8:=oM;rcases j with rfl|rfl|rfl|rfl|rfl|rfl|rfl|rfl|rfl
 ·exact⟨_,_,a.cell 0,h1.ak.1,h1.ak.2,zg R F⟩
 ·exact⟨_,_,a.cell 1,h2.ak.1,h2.ak.2,zn (zg n G) oM⟩
 ·exact⟨_,_,a.cell 2,h3.ak.1,h3.ak.2,zn (zg o H) oM⟩
 ·exact⟨_,_,a.cell 3,h4.ak.1,h4.ak.2,zn (zg p I) oM⟩
 ·exact⟨_,_,a.cell 4,h5.ak.1,h5.ak.2,zn (zg q J) oM⟩
 ·exact⟨_,_,a.cell 5,h6.ak.1,h6.ak.2,zn (zg r L) oM⟩
 ·exact⟨_,_,a.cell 6,h7.ak.1,h7.ak.2,zn (zg s M) oM⟩
 ·exact⟨_,_,a.cell 7,h8.ak.1,h8.ak.2,zn (zg t O) oM⟩
 ·exact⟨_,_,a.cell 8,h9.ak.1,h9.ak.2,zn (zg u Q) oM⟩
theorem ziM :Calls Tryz.prog 70 #[] w (RetT3 w):=by
 go_enter Tryz.func70,Tryz.ntmps70
 go_wp2_with fail
 go_ret;exact lit9 w ⟨rfl,rfl,by decide +kernel,by decide +kernel⟩ ⟨rfl,rfl,by decide +kernel,by decide +kernel⟩ ⟨rfl,rfl,by decide +kernel,by decide +kernel⟩ ⟨rfl,rfl,by decide +kernel,by decide +kernel⟩ ⟨rfl,rfl,by decide +kernel,by decide +kernel⟩ ⟨rfl,rfl,by decide +kernel,by decide +kernel⟩ ⟨rfl,rfl,by decide +kernel,by decide +kernel⟩ ⟨rfl,rfl,by decide +kernel,by decide +kernel⟩ ⟨rfl,rfl,by decide +kernel,by decide +kernel⟩
theorem zim (h:Frm S w w') {p:Addr} (hv:w.cell? p=some v)(hp:¬ S p.block):w'.cell? p=some v:=
 (World.cell?_of_block (w:=w) (h.block _ (World.block_lt_of_cell? w p hv) hp)).trans hv
theorem zby.own {w0:World}  {t:Sys} {p:Aut} (h:zby w0 W R M L K s A n c t C k c2 p B m d B' m' d'):zby W W R M L K s A n c t C k c2 p B m d B' m' d':={ h with dr:=Dr.refl _ _,hR:=h.rd.lt }
theorem spec_l9Spoil {t:Sys} {p:Aut}  (h:zby w w R M L K s A n c t C k c2 p B m d B' m' d')(hM:M<=600000000)(hL:L<=90000)(hK:K<=60) :
  Calls Tryz.prog 40 #[.pointer (some R),.agg #[s.al,s.st,.slice A n c],.agg #[p.al,.slice B m d,.slice B' m' d'],.agg #[t.al,t.st,.slice C k c2]] w (RetSPT R (M+100) (L+3) (K+39) w):=by
 have hRl:=h.hR;have aj:Ext w ((((((w.alloc (.cells #[s.al,s.st,.slice A n c] 39)).alloc (.cells #[p.al,.slice B m d,.slice B' m' d'] 26)).alloc (.cells #[t.al,t.st,.slice C k c2] 39)).alloc (.cells #[(0:Int),(0:Int),()] 39)).alloc (.cells #[(0:Int),(),()] 26)).alloc (.cells #[(0:Int),(0:Int),()] 39)):=((((((cW _).alloc _).alloc _).alloc _).alloc _).alloc _).alloc _;obtain⟨b1,b2,b3⟩:=zN (cW (((w.alloc (.cells #[s.al,s.st,.slice A n c] 39)).alloc (.cells #[p.al,.slice B m d,.slice B' m' d'] 26)).alloc (.cells #[t.al,t.st,.slice C k c2] 39)))
 go_enter Tryz.func40,Tryz.ntmps40
 go_upto_region 1 with fail
 have aw:(((w.alloc (.cells #[s.al,s.st,.slice A n c] 39)).alloc (.cells #[p.al,.slice B m d,.slice B' m' d'] 26)).alloc (.cells #[t.al,t.st,.slice C k c2] 39)).heap.size=w.heap.size+3:=sM;generalize ((w.alloc _).alloc _).alloc _=w0 at *;generalize U0:((w0.alloc _).alloc _).alloc _=w1 at *;obtain⟨U,z1,z2,z3⟩:=Ext.x3_ U0;clear U0;simp only [aw] at z1 z2 z3;have ai:Tri w w1 R M L K (w.heap.size+1+1+1) (w.heap.size+1+1+1+1+1) (w.heap.size+1+1+1+1) w.heap.size (w.heap.size+1+1) (w.heap.size+1) s A n c t C k c2 p B m d B' m' d':=
  ⟨h.ext aj,z1,z3,z2,b1.ext U,b3.ext U,.inr (b2.ext U),oM,za (by unfold Ne6;omega)⟩
 have ax:=aj.size;clear z1 z2 z3 b1 b2 b3 aj U h aw;have av:=za (show w.heap.size+1≠0 by omega);have S:=za (show Ne6 (w.heap.size+1+1+1) (w.heap.size+1+1+1+1+1) (w.heap.size+1+1+1+1) w.heap.size (w.heap.size+1+1) (w.heap.size+1) by unfold Ne6;omega);generalize hZt:w.heap.size+1+1+1+1+1=Zt at *;generalize hZp:w.heap.size+1+1+1+1=l at *;generalize hZs:w.heap.size+1+1+1=o at *;generalize hGt:w.heap.size+1+1=Gt at *;generalize hGp:w.heap.size+1=Gp at *;generalize hGs:w.heap.size=Gs at *;have F:=za (show w.heap.size<=o∧w.heap.size<=Zt∧w.heap.size<=l by omega);clear hZt hZp hZs hGt hGp hGs ax;go_wp2_with fail
 refine (zx ai.at_.rd oM).mono ?_;rintro e w2 ⟨y,rfl,-,-,f,g⟩;have a:=ai.drawn g f;clear ai f g;go_upto_block 0 with fail
 go_cut [] (fun wx=>∃ (s:Sys) (A:Option Addr) (n c:Nat) (t:Sys) (C:Option Addr) (k c2:Nat) (p:Aut) (B:Option Addr) (m d:Nat) (B':Option Addr) (m' d':Nat),Tri w wx R (M+100) (L+3) (K+39) (o) (Zt) (l) Gs (Gt) (Gp) s A n c t C k c2 p B m d B' m' d')
 case first =>
  have Q:y=0∨y=1∨y=2∨3<=y:=oM;rcases Q with hy|hy|hy|hy
  ·subst hy;have az:True:=trivial;have Y:=a.bs.cell;go_wp2_with fail
   refine (zbG (L:=L) a.at_.rd oM a.at_.is a.at_.ns.1.1 oM).mono ?_;rintro e v1 ⟨s1,A1,n1,d1,rfl,af,ab,x,D⟩;have i:=a.drawn D x;clear Y;go_wp2_with fail
   refine (zbG (L:=L+1) i.at_.rd oM af ab.1 oM).mono ?_;rintro e v2 ⟨s2,A2,n2,d2,rfl,ag,ad,f,g⟩;have j:=i.drawn g f;go_wp2_with fail
   refine (zbG (L:=L+2) j.at_.rd oM ag ad.1 oM).mono ?_;rintro e v3 ⟨s3,A3,n3,d3,rfl,ah,ae,G,E⟩;have b:=(j.drawn E G).more (N:=M+100) (J:=L+3) (H:=K+39) oM oM oM;have Y:=b.bs.cell;have fG:=b.bs.frozen;have z:=b.setS ah ae;go_wp2_with fail
   go_meet;exact⟨_,_,_,_,_,_,_,_,_,_,_,_,_,_,_,z⟩
  ·subst hy;have az:True:=trivial;have u:=av.out;have Y:=(a.az u).cell;go_wp2_with fail
   refine (zbH a.at_.rd oM a.at_.ip a.at_.bd.out oM).mono ?_;rintro e v1 ⟨b1,A1,n1,d1,B1,m1,e1,rfl,aK,aH,x,D⟩;have i:=a.drawn D x;have bo:=a.at_.rd.lt;have bp:=i.at_.rd.lt;clear Y;go_wp2_with fail
   refine (zbH x oM (aK.less oM) aH.out oM).mono ?_;rintro e v2 ⟨b2,A2,n2,d2,B2,m2,e2,rfl,aL,aI,f,g⟩;have j:=i.drawn g f;have bq:=j.at_.rd.lt;go_wp2_with fail
   refine (zbH f oM (aL.less oM) aI.out oM).mono ?_;rintro e v3 ⟨b3,A3,n3,d3,B3,m3,e3,rfl,aN,aJ,G,E⟩;have b:=(j.drawn E G).more (N:=M+100) (J:=L+3) (H:=K+39) oM oM oM;have Y:=(b.az u).cell;have fG:=(b.az u).frozen;have z:=b.setP u (aN.less oM) (BdL.more aJ.out oM);go_wp2_with fail
   go_meet;exact⟨_,_,_,_,_,_,_,_,_,_,_,_,_,_,_,z⟩
  ·subst hy;have az:True:=trivial;have Y:=a.bt.cell;go_wp2_with fail
   refine (zbG (L:=L) a.at_.rd oM a.at_.it a.at_.ns.2.1 oM).mono ?_;rintro e v1 ⟨s1,A1,n1,d1,rfl,af,ab,x,D⟩;have i:=a.drawn D x;clear Y;go_wp2_with fail
   refine (zbG (L:=L+1) i.at_.rd oM af ab.1 oM).mono ?_;rintro e v2 ⟨s2,A2,n2,d2,rfl,ag,ad,f,g⟩;have j:=i.drawn g f;go_wp2_with fail
   refine (zbG (L:=L+2) j.at_.rd oM ag ad.1 oM).mono ?_;rintro e v3 ⟨s3,A3,n3,d3,rfl,ah,ae,G,E⟩;have b:=(j.drawn E G).more (N:=M+100) (J:=L+3) (H:=K+39) oM oM oM;have Y:=b.bt.cell;have fG:=b.bt.frozen;have z:=b.setT ah ae;go_wp2_with fail
   go_meet;exact⟨_,_,_,_,_,_,_,_,_,_,_,_,_,_,_,z⟩
  ·have h0:((y:Int)==0)=false:=by simp;omega
   have h1:((y:Int)==1)=false:=by simp;omega
   have h2:((y:Int)==2)=false:=by simp;omega
   go_wp2_with fail
   go_meet;exact⟨_,_,_,_,_,_,_,_,_,_,_,_,_,_,_,a.more oM oM oM⟩
 case rest =>
  clear a;obtain⟨s,A,n,c,t,C,k,c2,p,B,m,d,B',m',d',ht⟩:=hcut;have u:=av.out;obtain⟨O,aO⟩:∃ O,O=wc:=⟨_,rfl⟩;subst aO;have cS:∀ W,Frm (fun k=>k=o∨k=l) O W->∀ q,W.cell? ⟨Gs,q,none⟩=#[Value.int .i64 s.al,.int .i64 s.st,.slice A n c][q]?:=fun W hW=>(ht.bs.frm hW (by have:=S.out;unfold Ne6 at this;omega)).cell;have cT:∀ W,Frm (fun k=>k=o∨k=l) O W->∀ q,W.cell? ⟨Gt,q,none⟩=#[Value.int .i64 t.al,.int .i64 t.st,.slice C k c2][q]?:=fun W hW=>(ht.bt.frm hW (by have:=S.out;unfold Ne6 at this;omega)).cell;have cP:∀ W,Frm (fun k=>k=o∨k=l) O W->∀ q,W.cell? ⟨Gp,q,none⟩=#[Value.int .i64 p.al,.slice B m d,.slice B' m' d'][q]?:=fun W hW=>((ht.az u).frm hW (by have:=S.out;unfold Ne6 at this;omega)).cell;have ar:Frm (fun k=>k=o∨k=l) O O.drew:=(cW O).drew.ai;have I:=ht.ext (cW O).drew;go_wp2_with fail
  refine tR (fun X=>Frm (fun k=>k=o∨k=l) O X) [5] (Ord.of [0,1,2,3,4,5]) ?_;refine tQ ?_;generalize hwD:O.drew=wD at *;clear hwD;have Z:=I.at_;have zs:=I.zs;have V:=I.zt;have zp:=I.zp;have cs:=zs.cell;have fs:=zs.frozen;have r:=za S.out;clear I ht;refine zA fun K hK=>?_;go_simp;have q1:=zaw zs rfl (.int .i64 s.al) (.int .i64 s.st) (.slice A n c);have e1:=zag wD o (.int .i64 s.al) (.int .i64 s.st) (.slice A n c);replace Z:=Z.far zs e1 F.out.1 dM dM;replace V:=V.frm e1 (by have:=r.out;unfold Ne6 at this;omega);replace zp:=zp.frm e1 (by have:=r.out;unfold Ne6 at this;omega);have aa:=ar.trans (e1.mono (T:=fun k=>k=o∨k=l) (fun k _ hk=>.inl hk));refine hK.out _ _ aa ?_;refine pT ?_;clear cs fs zs e1;generalize ((wD.setCell o s.al).setCell ⟨o,1,none⟩ s.st).setCell ⟨o,2,none⟩ (.slice A n c)=wA at *;have cp:=zp.cell;have fp:=zp.frozen;refine zA fun K hK=>?_;go_simp;have q2:=zaw zp rfl (.int .i64 p.al) (.slice B m d) (.slice B' m' d');have e2:=zag wA l (.int .i64 p.al) (.slice B m d) (.slice B' m' d');replace Z:=Z.far zp e2 F.out.2.2 dM dM;replace V:=V.frm e2 (by have:=r.out;unfold Ne6 at this;omega);replace q1:=q1.frm e2 (by have:=r.out;unfold Ne6 at this;omega);have au:=aa.trans (e2.mono (T:=fun k=>k=o∨k=l) (fun k _ hk=>.inr hk));refine hK.out _ _ au ?_;refine pT ?_;clear cp fp zp e2 aa;generalize ((wA.setCell l p.al).setCell ⟨l,1,none⟩ (.slice B m d)).setCell ⟨l,2,none⟩ (.slice B' m' d')=wB at *;have ct:=V.cell;have ft:=V.frozen;refine zJ fun K hK=>?_;go_simp;have q3:=zaw V rfl (.int .i64 t.al) (.int .i64 t.st) (.slice C k c2);have e3:=zag wB Zt (.int .i64 t.al) (.int .i64 t.st) (.slice C k c2);replace Z:=Z.far V e3 F.out.2.1 dM dM;replace q1:=q1.frm e3 (by have:=r.out;unfold Ne6 at this;omega);replace q2:=q2.frm e3 (by have:=r.out;unfold Ne6 at this;omega);refine hK.out _ _ ?_;refine zai ?_;clear ct ft V e3 au ar cS cT cP;generalize ((wB.setCell Zt t.al).setCell ⟨Zt,1,none⟩ t.st).setCell ⟨Zt,2,none⟩ (.slice C k c2)=wC at *;have aG:=za Z;clear Z;go_wp2_with fail
  have c1:=q1.cell;have aF:=q2.cell;have c3:=q3.cell;exact bodyPost_ret (v:=.tuple #[.agg #[s.al,s.st,.slice A n c],.agg #[p.al,.slice B m d,.slice B' m' d'],.agg #[t.al,t.st,.slice C k c2]]) (by simp [results,Tryz.results40,go_sem,c1,aF,c3]) rfl ⟨s,A,n,c,t,C,k,c2,p,B,m,d,B',m',d',rfl,aG.out⟩
theorem spec_l12Draw (h:Rd w R M)(hM:M<=500000000) :
  Calls Tryz.prog 34 #[.pointer (some R)] w (RetSTP R (M+200000) 30000 50 w):=by
 have hRl:=h.lt
 go_enter Tryz.func34,Tryz.ntmps34
 go_upto_region 1 with fail
 generalize U0:((w.alloc _).alloc _).alloc _=w0 at *;obtain⟨aW,z1,z2,z3⟩:=Ext.x3_ U0;have co:w0.heap.size=w.heap.size+3:=by rw [← U0];simp
 clear U0;go_upto_region 2 with (first
  |(go_at_call 69;refine (spec_l9Three (h.ext aW) oM).mono ?_;rintro e w1 ⟨s,A,n,c,t,C,k,E,p,B,m,d,D,Q,I,rfl,S⟩))
 have aa:Ext w1 (((w1.alloc (.cells #[s.al,s.st,.slice A n c] 39)).alloc (.cells #[p.al,.slice B m d,.slice D Q I] 26)).alloc (.cells #[t.al,t.st,.slice C k E] 39)):=(((cW _).alloc _).alloc _).alloc _;obtain⟨b1,b2,b3⟩:=zN (cW (((w1.alloc (.cells #[s.al,s.st,.slice A n c] 39)).alloc (.cells #[p.al,.slice B m d,.slice D Q I] 26)).alloc (.cells #[t.al,t.st,.slice C k E] 39)));have bo:=S.dr.size;have aF:Tri w (((w1.alloc (.cells #[s.al,s.st,.slice A n c] 39)).alloc (.cells #[p.al,.slice B m d,.slice D Q I] 26)).alloc (.cells #[t.al,t.st,.slice C k E] 39)) R (M+150000) 30000 50 w.heap.size (w.heap.size+1) (w.heap.size+1+1) w1.heap.size (w1.heap.size+1+1) (w1.heap.size+1) s A n c t C k E p B m d D Q I:=
  ⟨((S.less aW.dr hRl).ext aa).more oM oM oM,(z1.dr S.dr oM).ext aa,(z2.dr S.dr oM).ext aa,(z3.dr S.dr oM).ext aa,b1,b3,.inr b2,oM,za (by unfold Ne6;omega)⟩
 clear S b1 b2 b3 z1 z2 z3 aa;have V:=za (show w.heap.size+3<=w1.heap.size by omega);have bc:(((w1.alloc (.cells #[s.al,s.st,.slice A n c] 39)).alloc (.cells #[p.al,.slice B m d,.slice D Q I] 26)).alloc (.cells #[t.al,t.st,.slice C k E] 39)).heap.size=w1.heap.size+3:=sM;clear bo;generalize hG:w1.heap.size=G at *;generalize ((w1.alloc _).alloc _).alloc _=w2 at *;clear hG w1;go_wp2_with fail
 refine (zx aF.at_.rd oM).mono ?_;rintro e w3 ⟨y,rfl,-,-,aU,aB⟩;have Z:=aF.drawn aB aU;have f:=za (show G+3<=w3.heap.size by have:=aB.size;omega);clear aF aU aB bc;go_upto_if 18 with fail
 go_cut [] (fun wx=>∃ (s:Sys) (A:Option Addr) (n c:Nat) (t:Sys) (C:Option Addr) (k E:Nat) (p:Aut) (B:Option Addr) (m d:Nat) (D:Option Addr) (Q I:Nat),Tri w wx R (M+200000) 30000 50 w.heap.size (w.heap.size+1) (w.heap.size+1+1) G (G+1+1) (G+1) s A n c t C k E p B m d D Q I)
 case first =>
  by_cases hy:y=0
  ·subst hy;have cr:True:=trivial;have r:G+1≠0:=oM;go_wp2_with fail
   refine (ziM).mono ?_;rintro e w4 ⟨g,rfl,hg,hT,aX⟩;have aG:=Z.ext aX;have hq:=Z.at_.rd.lt;clear Z;have bI:=aX.size;go_wp2_with fail
   refine (zx aG.at_.rd oM).mono ?_;rintro e w5 ⟨j,rfl,hj,-,bl,aC⟩;have bh:j<9:=by have:=hj oM;omega
   have aH:=aG.drawn aC bl;obtain⟨bt,lt,aR,bi,af,aT⟩:=hT j bh;have aL:=aC.aa aR (by dsimp only;omega);have x:=zbd aT aC (fun b h1 e=>oM);have bH:(j:Int)<9:=oM;clear hj hT aR aT aG;have cj:w3.heap.size<=bt:=(x.lt bt rfl).1;obtain⟨bY,x0,e0,_,_,au,aN⟩:=(dY x).str (show 0<3 by omega);obtain⟨bZ,x1,e1,_,_,av,ay⟩:=(dY x).str (show 1<3 by omega);obtain⟨b0,x2,e2,_,_,aw,az⟩:=(dY x).str (show 2<3 by omega);obtain rfl:=Option.some.inj e0;obtain rfl:=Option.some.inj e1;obtain rfl:=Option.some.inj e2;have bJ:=af.1 x0 (cX au.out);have bK:=af.1 x1 (cX av.out);have bL:=af.2 x2 aw.out;rw [zK,dS] at aN ay az;clear e0 e1 e2 au av aw af bi x;go_wp2_with fail
   refine (zck aH.at_.rd oM).mono ?_;rintro e w6 ⟨s1,A1,n1,c1,ok,rfl,bm,⟨-,bf⟩,ck,hr6,hd6⟩;have ci:=za (show R<w.heap.size from hRl);have l:=aH.drawn hd6 hr6;have F:=l.bs.cell;have fG:=l.bs.frozen;have o:=l.setS bm (by omega:n1<=30000∧n1<=c1);have f1:=zag w6 G (.int .i64 s1.al) (.int .i64 s1.st) (.slice A1 n1 c1);have aY:=(hd6.aa ay (by have:=f.out;have:=V.out;dsimp only;omega));have ab:=(hd6.aa az (by have:=f.out;have:=V.out;dsimp only;omega));have kt:=(hd6.aa aL (by have:=f.out;have:=V.out;dsimp only;omega));have bq:=zim f1 aY (by have:=f.out;dsimp only;omega);have aZ:=zim f1 ab (by have:=f.out;dsimp only;omega);clear aN ay az aL aY ab kt aH l f1 hd6 hr6;go_upto_region 6 with fail
   clear F fG;generalize ((w6.setCell G s1.al).setCell ⟨G,1,none⟩ s1.st).setCell ⟨G,2,none⟩ (.slice A1 n1 c1)=w7 at *;go_wp2_with fail
   refine (zck o.at_.rd oM).mono ?_;rintro e w8 ⟨s2,A2,n2,d2,cx,rfl,bn,⟨-,bg⟩,cl,aV,aD⟩;have ag:=o.drawn aD aV;have F:=ag.bt.cell;have fG:=ag.bt.frozen;have O:=ag.setT bn (by omega:n2<=30000∧n2<=d2);have f2:=zag w8 (G+1+1) (.int .i64 s2.al) (.int .i64 s2.st) (.slice A2 n2 d2);have ab:=(aD.aa aZ (by have:=f.out;have:=V.out;dsimp only;omega));have br:=zim f2 ab (by have:=f.out;dsimp only;omega);clear bq aZ ab o ag f2 aD aV;go_upto_region 7 with fail
   clear F fG;generalize ((w8.setCell ⟨G+1+1,0,none⟩ s2.al).setCell ⟨G+1+1,1,none⟩ s2.st).setCell ⟨G+1+1,2,none⟩ (.slice A2 n2 d2)=w9 at *;go_wp2_with fail
   refine (zeJ O.at_.rd oM).mono ?_;rintro e bw ⟨b1,A3,n3,d3,A4,n4,d4,cy,rfl,aS,aQ,aq,ao⟩;have cn:=O.at_.rd.lt;have ah:=O.drawn ao aq;have F:=(ah.az r).cell;have fG:=(ah.az r).frozen;have U:=ah.setP r (aS.less oM) (BdL.more aQ.out oM);clear br O ah ao aq aS;go_upto_region 8 with fail
   clear F fG;generalize ((bw.setCell ⟨G+1,0,none⟩ b1.al).setCell ⟨G+1,1,none⟩ (.slice A3 n3 d3)).setCell ⟨G+1,2,none⟩ (.slice A4 n4 d4)=cC at *;go_wp2_with fail
   refine (zx U.at_.rd oM).mono ?_;rintro e cD ⟨y,rfl,-,-,ar,ap⟩;have a:=U.drawn ap ar;clear U ar ap;have ae:y=0∨y=1∨y=2∨3<=y:=oM;rcases ae with hy|hy|hy|hy
   ·subst hy;have F:=a.bs.cell;go_wp2_with fail
    refine (zem (L:=1001) a.at_.rd oM a.at_.is bf oM oM).mono ?_;rintro e a1 ⟨s5,A5,n5,d5,rfl,aE,bj,z,u⟩;have i:=(a.drawn u z).more (N:=M+200000) (J:=30000) (H:=50) oM oM oM;clear F;have F:=i.bs.cell;have fG:=i.bs.frozen;have o:=i.setS aE (by omega:n5<=30000∧n5<=d5);go_wp2_with fail
    go_meet;exact⟨_,_,_,_,_,_,_,_,_,_,_,_,_,_,_,o⟩
   ·subst hy;have F:=a.bt.cell;go_wp2_with fail
    refine (zem (L:=1001) a.at_.rd oM a.at_.it bg oM oM).mono ?_;rintro e a1 ⟨s5,A5,n5,d5,rfl,aE,bj,z,u⟩;have i:=(a.drawn u z).more (N:=M+200000) (J:=30000) (H:=50) oM oM oM;clear F;have F:=i.bt.cell;have fG:=i.bt.frozen;have o:=i.setT aE (by omega:n5<=30000∧n5<=d5);go_wp2_with fail
    go_meet;exact⟨_,_,_,_,_,_,_,_,_,_,_,_,_,_,_,o⟩
   ·subst hy;have F:=(a.az r).cell;go_wp2_with fail
    refine (zfi (L:=x2.size+1) a.at_.rd oM a.at_.ip aQ.out oM).mono ?_;rintro e a1 ⟨b5,A5,n5,d5,A6,n6,d6,rfl,bk,be,z,u⟩;have hq:=a.at_.rd.lt;have i:=(a.drawn u z).more (N:=M+200000) (J:=30000) (H:=50) oM oM oM;clear F;have F:=(i.az r).cell;have fG:=(i.az r).frozen;have o:=i.setP r (bk.less oM) (BdL.more be.out oM);go_wp2_with fail
    go_meet;exact⟨_,_,_,_,_,_,_,_,_,_,_,_,_,_,_,o⟩
   ·have h0:((y:Int)==0)=false:=by simp;omega
    have h1:((y:Int)==1)=false:=by simp;omega
    have h2:((y:Int)==2)=false:=by simp;omega
    go_wp2_with fail
    go_meet;exact⟨_,_,_,_,_,_,_,_,_,_,_,_,_,_,_,a.more oM oM oM⟩
  ·have cq:((y:Int)==0)=false:=by simp;omega
   go_wp2_with fail
   go_meet;exact⟨_,_,_,_,_,_,_,_,_,_,_,_,_,_,_,Z.more oM oM oM⟩
 case rest =>
  clear Z;obtain⟨s,A,n,c,t,C,k,E,p,B,m,d,D,Q,I,S⟩:=hcut;have r:G+1≠0:=oM;have Y:Hid (G+3<=wc.heap.size∧w.heap.size+3<=G):=za ⟨by have:=(S.bt).lt;omega,V.out⟩;obtain⟨wE,bp⟩:∃ wE,wE=wc:=⟨_,rfl⟩;subst bp;have cS:∀ W,Frm (fun k=>k=w.heap.size∨k=w.heap.size+1) wE W->∀ q,W.cell? ⟨G,q,none⟩=#[Value.int .i64 s.al,.int .i64 s.st,.slice A n c][q]?:=fun W hW=>(S.bs.frm hW (oH Y.out)).cell;have cT:∀ W,Frm (fun k=>k=w.heap.size∨k=w.heap.size+1) wE W->∀ q,W.cell? ⟨G+1+1,q,none⟩=#[Value.int .i64 t.al,.int .i64 t.st,.slice C k E][q]?:=fun W hW=>(S.bt.frm hW (oH Y.out)).cell;have cP:∀ W,Frm (fun k=>k=w.heap.size∨k=w.heap.size+1) wE W->∀ q,W.cell? ⟨G+1,q,none⟩=#[Value.int .i64 p.al,.slice B m d,.slice D Q I][q]?:=fun W hW=>((S.az r).frm hW (oH Y.out)).cell;have aO:Frm (fun k=>k=w.heap.size∨k=w.heap.size+1) wE wE.drew:=(cW wE).drew.ai;have l:=S.ext (cW wE).drew;go_wp2_with fail
  refine tR (fun X=>Frm (fun k=>k=w.heap.size∨k=w.heap.size+1) wE X) [5] (Ord.of [0,1,2,3,4,5]) ?_;refine tQ ?_;generalize hwD:wE.drew=wD at *;clear hwD;have ha:=l.at_;have zs:=l.zs;have zt:=l.zt;have zp:=l.zp;have cs:=zs.cell;have fs:=zs.frozen;clear l S;refine zA fun K hK=>?_;go_simp;have q1:=zaw zs rfl (.int .i64 s.al) (.int .i64 s.st) (.slice A n c);have e1:=zag wD w.heap.size (.int .i64 s.al) (.int .i64 s.st) (.slice A n c);replace ha:=ha.far zs e1 oM dM dM;replace zt:=zt.frm e1 oM;replace zp:=zp.frm e1 oM;have aA:=aO.trans (e1.mono (T:=fun k=>k=w.heap.size∨k=w.heap.size+1) (fun k _ hk=>.inl hk));refine hK.out _ _ aA ?_;refine pT ?_;clear cs fs zs e1;generalize ((wD.setCell w.heap.size s.al).setCell ⟨w.heap.size,1,none⟩ s.st).setCell ⟨w.heap.size,2,none⟩ (.slice A n c)=wA at *;have ct:=zt.cell;have ft:=zt.frozen;refine zA fun K hK=>?_;go_simp;have q2:=zaw zt rfl (.int .i64 t.al) (.int .i64 t.st) (.slice C k E);have e2:=zag wA (w.heap.size+1) (.int .i64 t.al) (.int .i64 t.st) (.slice C k E);replace ha:=ha.far zt e2 oM dM dM;replace zp:=zp.frm e2 oM;replace q1:=q1.frm e2 oM;have aP:=aA.trans (e2.mono (T:=fun k=>k=w.heap.size∨k=w.heap.size+1) (fun k _ hk=>.inr hk));refine hK.out _ _ aP ?_;refine pT ?_;clear ct ft zt e2 aA;generalize ((wA.setCell ⟨w.heap.size+1,0,none⟩ t.al).setCell ⟨w.heap.size+1,1,none⟩ t.st).setCell ⟨w.heap.size+1,2,none⟩ (.slice C k E)=wB at *;have cp:=zp.cell;have fp:=zp.frozen;refine zJ fun K hK=>?_;go_simp;have q3:=zaw zp rfl (.int .i64 p.al) (.slice B m d) (.slice D Q I);have e3:=zag wB (w.heap.size+1+1) (.int .i64 p.al) (.slice B m d) (.slice D Q I);replace ha:=ha.far zp e3 oM dM dM;replace q1:=q1.frm e3 oM;replace q2:=q2.frm e3 oM;refine hK.out _ _ ?_;refine zai ?_;clear cp fp zp e3 aP aO cS cT cP;generalize ((wB.setCell ⟨w.heap.size+1+1,0,none⟩ p.al).setCell ⟨w.heap.size+1+1,1,none⟩ (.slice B m d)).setCell ⟨w.heap.size+1+1,2,none⟩ (.slice D Q I)=wC at *;have bd:=za ha;clear ha;go_wp2_with fail
  have c1:=q1.cell;have ba:=q2.cell;have c3:=q3.cell;exact bodyPost_ret (v:=.tuple #[.agg #[s.al,s.st,.slice A n c],.agg #[t.al,t.st,.slice C k E],.agg #[p.al,.slice B m d,.slice D Q I]]) (by simp [results,Tryz.results34,go_sem,c1,ba,c3]) rfl ⟨s,A,n,c,t,C,k,E,p,B,m,d,D,Q,I,rfl,bd.out⟩
end Go.Proofs.YtfcjhpodichpjaaGreatDoor
