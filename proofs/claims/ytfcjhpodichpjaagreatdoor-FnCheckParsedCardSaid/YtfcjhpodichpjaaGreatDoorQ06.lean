/- impl.(*moves -/
import Derived.Test.YtfcjhpodichpjaaGreatDoorQ05
set_option maxHeartbeats 4000000
set_option maxRecDepth 100000
namespace Go.Proofs.YtfcjhpodichpjaaGreatDoor
open Go Go.RowKit
open Blk renaming new->dT
open Bool renaming and_eq_true->dF,eq_false_iff->eZ,eq_iff_iff->gY,or_eq_true->gZ
open Ext renaming refl->cW
open Int renaming toNat_natCast->eM
open List renaming all_eq_true->eG,append_nil->gQ,eq_nil_of_length_eq_zero->dU,foldl_cons->iO,getD_eq_getElem?_getD->dI,getElem?_eq_getElem->dC,getElem?_map->dQ,getElem?_of_mem->dX,getElem?_range->gH,getElem_mem->fO,length_append->dL,length_map->dO,length_singleton->eA,length_take->eO,mem_append->gR,mem_of_getElem?->cX,mem_singleton->e8,pairwise_lt_range->jI,take_add_one->dH,take_length->eC,take_of_length_le->dG
open Nat renaming eq_of_testBit_eq->iF,le_refl->cY,le_trans->dJ,lt_of_lt_of_le->eH,lt_trichotomy->eN,or_lt_two_pow->eJ,pow_le_pow_right->dV,zero_le->dD
open Option renaming toList_some->eD
variable {A AA B PA SA:Option Addr} {G K v:Int} {L at_ ls st:List Nat} {N a ac an base c c' cap g hi hi' i k k0 l lo lo' m n p pc pn q r sc sn x:Nat} {W w:World} {ds xs:List Int} {es:List Edg} {mv sv:Value} {s:ByteArray} {ss:List Sys}
theorem stepB_low {j:Nat}(hf:Few k0 es)(hb:x.testBit j=true)(hl:∀ i,i<j->x.testBit i=false) (l:Int):zbI es x l=succ es j l|||zbI es (x - 2 ^ j) l:=by
 apply iF;intro k;rw [Nat.testBit_or,gY,gZ,zdK,zdK,zfk];constructor
 ·rintro ⟨e,b,⟨c,a⟩,d⟩;have:=hf e b
  by_cases e1:e.fr.toNat=j
  ·exact Or.inl ⟨e,b,⟨oM,c⟩,d⟩
  ·refine Or.inr ⟨e,b,⟨c,?_⟩,d⟩;rw [zcw hb hl,a];simp [e1]
 ·rintro (⟨e,b,⟨c,a⟩,d⟩|⟨e,b,⟨c,a⟩,d⟩)
  ·exact⟨e,b,⟨a,by rw [c];exact hb⟩,d⟩
  ·rw [zcw hb hl] at a;simp only [dF] at a;exact⟨e,b,⟨c,a.1⟩,d⟩
theorem zia (es:List Edg) (l:Int):zbI es 0 l=0:=by
 apply iF;intro k;rw [Nat.zero_testBit,eZ];intro h;obtain⟨e,_,⟨_,a⟩,_⟩:=(zdK es 0 l k).1 h;simp at a
theorem impl_step {bm set:Nat} (hm:MovAt w bm es)(hT:Tab w)(hset:set<2 ^ 16)(hl:l<6)(hf:Few k0 es)(hk0:k0<=16) :
  Calls Tryz.prog 166 #[.pointer (some bm),set,l] w fun e w'=>e=.returned (.int .i64 (zbI es set l:Nat))∧Ext w w':=by
 have g:set<65536:=by simpa using hset
 have D:=za hf;clear hf
 go_enter Tryz.func166,Tryz.ntmps166
 go_wp2
 go_loopw [1,7] (fun s v wr=>∃ x:Nat,s=.int .i64 x∧x<65536∧∃ y:Nat,v=.int .i64 y∧Sm y∧Hid (zbI es set l=y|||zbI es x l)∧Ext w wr) (fun s _ _=>(intOf s).toNat)
 case atStart=>exact⟨set,rfl,g,0,rfl,tM,by simp [Hid],cW _⟩
 case round =>
  obtain⟨x,rfl,hx,y,rfl,L,r,c⟩:=hrel
  by_cases h0:x=0
  ·subst h0;go_wp2;go_ret;have F:=r.out;rw [zia,Nat.or_zero] at F;exact⟨zD (by rw [F]),c⟩
  ·have q:Sm x:=tM;obtain⟨j,I,J,k,m,d,B⟩:=lowest h0 q;have i:j<16:=by
    rcases Nat.lt_or_ge j 16 with h|h
    ·exact h
    ·have:=dV (n:=2) oM h;omega
   have X:=Nat.two_pow_pos j;have o:=za (stepB_low D.out k m l);have E:=hm j l i hl;have U:∀ W,Ext wr W->W.cell? ⟨bm,j*6+l,none⟩=some (.int .i64 (succ es j l:Nat)):=fun W hW=>(c.trans hW).aa E;have t:=za (fun W (hW:Ext wr W)=>hT.ext (c.trans hW));have M:=succ_sm D.out hk0 j l;have O:=za (zbz L M);have R:((x:Int) != 0)=true:=by simp;omega
   have G:=za (zcn (a:=x) (b:=x - 1) q tM);have H:=za (show ((x:Int) - 1)=((x - 1:Nat):Int) by omega);have Y:IntKind.u64.wrap (x:Int)=x:=by rw [IntKind.wrap_u64];omega
   have C:=za (fun W (hW:Ext wr W)=>(show Calls Tryz.prog 196 #[.int .u64 x] W fun e w'=>e=.returned (.int .i64 j)∧W=w' by rw [← I];exact tz x oM h0 W (t.out W hW)));have S:=cW wr;have T:x - 2 ^ j<x:=oM;have p:x&&&(x - 1)=x - 2 ^ j:=d;have f:=za p;have Q:(l:Int)<6:=oM;have u:(j:Int)<16:=oM;clear I k m d p h0 B E;generalize succ es j l=z at *;go_wp2_with fail
   go_region_held3 (fun W=>Ext wr W) (first|assumption|(refine Ext.drew ?_;assumption)|(refine Ext.trans ?_ aM;assumption)|(refine Ext.trans ?_ aM;refine Ext.drew ?_;assumption)) ((go_at_call 196;refine (C.out _ ?_).mono ?_;(first|assumption|(refine Ext.drew ?_;assumption));rintro e w' ⟨rfl,rfl⟩))
   go_wp2_with fail
   go_roundw
   case rel=>exact⟨x&&&(x - 1),by rw [H.out,G.out],by rw [f.out];omega,y|||z,by rw [O.out],L.or M,by unfold Hid;rw [r.out,o.out,f.out,Nat.or_assoc],c.trans aM⟩
   case measure =>
    have:=G.out;rw [← H.out] at this;have V:=f.out;simp [intOf];omega
theorem zfK (a:Nat):Rise (letters a 6):=by
 refine⟨fun l hl=>(zbi.1 hl).1,fun i j x y hx hy hij=>?_⟩;have b:(letters a 6).Pairwise (·<·):=List.Pairwise.filter _ jI;obtain⟨c,rfl⟩:=List.getElem?_eq_some_iff.1 hx;obtain⟨d,rfl⟩:=List.getElem?_eq_some_iff.1 hy;exact List.pairwise_iff_getElem.1 b i j c d hij
theorem Blk.ne {b:Nat} {t u:TypeId} {cs ds:Array Value}(h:Blk w a t cs)(h':Blk w b u ds)(ht:t≠u):a≠b:=by
 rintro rfl;unfold Blk at h h';rw [h] at h';injection h' with h'
 injection h' with _ h2
 exact ht h2
theorem zcz (h:Blk w g 3 #[.int .i64 (x:Nat)]):zap w (some ⟨g,0,none⟩) 1 [x]:=by
 refine⟨rfl,oM,fun _=>⟨g,0,_,rfl,h,fun j y hj=>?_⟩⟩;cases j with
 |zero =>
  obtain rfl:=Option.some.inj hj;rw [h.cell];rfl
 |succ j=>simp at hj
theorem rising_pw :Rising es↔es.Pairwise (fun x y=>ltE x y=true):=by
 rw [List.pairwise_iff_getElem];constructor
 ·intro h i j hi hj hij;exact h i j _ _ (dC hi) (dC hj) hij
 ·intro h a b x y hx hy hab;obtain⟨c,rfl⟩:=List.getElem?_eq_some_iff.1 hx;obtain⟨d,rfl⟩:=List.getElem?_eq_some_iff.1 hy;exact h a b c d hab
theorem zhR (a k:Nat):(letters a k).Pairwise (·<·):=List.Pairwise.filter _ jI
theorem asc_ext:∀ {l m:List Nat},l.Pairwise (·<·)->m.Pairwise (·<·)->(∀ x,x∈l↔x∈m)->l=m:=by
 intro l
 induction l with
 |nil =>
  intro m _ _ h;cases m with
  |nil=>rfl
  |cons y s=>exact absurd ((h y).2 sM) sM
 |cons x r ih =>
  intro m hl hm h;cases m with
  |nil=>exact absurd ((h x).1 sM) sM
  |cons y s =>
   rw [List.pairwise_cons] at hl hm;have e:x=y:=by
    have a:=(h x).1 sM;have b:=(h y).2 sM;rcases List.mem_cons.1 a with a|a
    ·exact a
    ·rcases List.mem_cons.1 b with b|b
     ·exact b.symm
     ·have:=hl.1 y b;have:=hm.1 x a;omega
   subst e;rw [ih hl.2 hm.2 fun z=>?_];have c:=h z;simp only [List.mem_cons] at c;constructor
   ·intro a;have:=hl.1 z a;rcases c.1 (Or.inr a) with b|b
    ·omega
    ·exact b
   ·intro a;have:=hm.1 z a;rcases c.2 (Or.inr a) with b|b
    ·omega
    ·exact b
def chE (es:List Edg) (q l:Nat):List Nat:=(es.filter fun e=>e.fr==(q:Int)&&e.le==(l:Int)).map fun e=>e.ta.toNat
theorem chE_cho (hf:Few p es)(hp:p<=16)(hr:Rising es) (q l:Nat):chE es q l=letters (succ es q l) 32:=by
 refine asc_ext ?_ (zhR _ _) fun x=>?_
 ·have c:=rising_pw.1 hr;rw [chE,List.pairwise_map,List.pairwise_filter];refine c.imp_of_mem fun {a b} ha hb hab d h3=>?_;simp only [dF,beq_iff_eq] at d h3;have:=ltE_iff.1 hab;have:=hf a ha;have:=hf b hb;omega
 ·rw [zW,zfk,chE,List.mem_map];simp only [List.mem_filter,dF,beq_iff_eq];constructor
  ·rintro ⟨e,⟨c,d⟩,rfl⟩;have:=hf e c;exact⟨oM,e,c,d,rfl⟩
  ·rintro ⟨_,e,c,d,rfl⟩;exact⟨e,⟨c,d⟩,rfl⟩
theorem chE_take {x:Edg}(h:es[k]?=some x) (q l:Nat):chE (es.take (k+1)) q l=chE (es.take k) q l++if x.fr=(q:Int)∧x.le=(l:Int) then [x.ta.toNat] else []:=by
 rw [dH,h];unfold chE;rw [eD,List.filter_append,List.map_append]
 congr 1
 by_cases hc:x.fr=(q:Int)∧x.le=(l:Int)
 ·rw [if_pos hc];simp [hc]
 ·rw [if_neg hc];have:(x.fr==(q:Int)&&x.le==(l:Int))=false:=by
   rw [eZ];intro h;simp only [dF,beq_iff_eq] at h;exact hc h
  simp [this]
theorem chE_len (hf:Few p es)(hp:p<=16)(hr:Rising es) (q l k:Nat):(chE (es.take k) q l).length<=16:=by
 have a:(chE (es.take k) q l).Sublist (chE es q l):=((List.take_sublist k es).filter _).map _;refine dJ a.length_le (dJ (zgR (p:=p) ?_ ?_) hp)
 ·rw [chE_cho hf hp hr];exact zfb _ _
 ·intro x hx;obtain⟨e,b,rfl⟩:=List.mem_map.1 hx;have:=hf e (List.mem_filter.1 b).1;omega
theorem ret_one {y:Nat}(hx:Ext w W)(hb:Blk W g 3 #[.int .i64 (y:Nat)])(hg:w.heap.size<=g):zbJ w [y] (.returned (.slice (some g) 1 1)) W:=
 ⟨some ⟨g,0,none⟩,1,rfl,⟨rfl,.inr ⟨g,1,_,rfl,hg,hb,by simp [zas,maxLen]⟩⟩,hx⟩
theorem zhE {L:Int}  {us:List Aut}   {m:Mem}(h:zeO w PA pn AA an ss us)(hok:zcX ss us)(hm:(zbe ss us)[i]?=some m)(hq:q<m.1)(hl:l<6) :
  Calls Tryz.prog 263 #[.agg #[.slice PA pn pc,.slice AA an ac,sv,L,K,G],i,q,l] w (zbJ w (m.2 q l)):=by
 have d:Ext w (w.alloc (.cells #[.slice PA pn pc,.slice AA an ac,sv,L,K,G] 178)):=(cW w).alloc _;have F:=dT w 178 #[.slice PA pn pc,.slice AA an ac,sv,L,K,G];have HN:=za (fun W (hW:Ext w W)=>h.ext hW);have r:Hid (pn=ss.length):=by obtain⟨_,_,h1⟩:=h.sys;exact h1.1
 have O:Hid (an=us.length):=by obtain⟨_,_,h1⟩:=h.aut;exact h1.1
 have a0:pn<=3:=by rw [r.out];exact hok.few
 have aV:an<=2:=by rw [O.out];exact hok.few'
 by_cases hip:i<pn
 ·have U:ss[i]?=some (ss[i]'(by rw [← r.out];exact hip)):=dC _;generalize ss[i]'(by rw [← r.out];exact hip)=s at U;obtain rfl:m=zeE s:=by
   rw [zbe,List.getElem?_append_left (by simp;have:=r.out;omega),dQ,U] at hm;exact (Option.some.inj hm).symm
  have hv:=hok.sys s (cX U);obtain⟨E,ax,_,z⟩:=valid_iff.1 hv;obtain⟨p,hp,aZ,S,hf⟩:=zcf hv;obtain⟨I,D⟩:∃ I:Nat,Hid (s.al=I):=⟨s.al.toNat,by unfold Hid;omega⟩;have V:Sm I:=by have:=D.out;unfold Sm;omega
  have T:=za (show (zeE s).2 q l=if I.testBit l then chE s.edges q l else [q] by
   rw [chE_cho hf S z];simp only [zeE,cho];rw [D.out,eM])
  have Hs:=za U;have af:=za (chE_len hf S z q l);have Hf:=za hf;clear U hv E ax z hf hm hok h hq;rw [T.out];cases hb:I.testBit l
  ·have Hb:=za hb;clear hb
   go_enter Tryz.func263,Tryz.ntmps263
   go_upto_region 1 with fail
   generalize w.alloc _=y at *;have c0:=F.cell;obtain⟨lo,hi,C⟩:=(HN.out y d).sys;obtain⟨b,o,s',B,n,c',rfl,_,_,J,M,e1,e2,u⟩:=C.sys hip;obtain rfl:s=s':=by have:=J.out;rw [Hs.out] at this;exact Option.some.inj this
   rw [D.out] at M;clear e1 C u;go_wp2_with (go_at_call 112;with_reducible refine (zao I l V _ oM).mono ?_;rw [Hb.out];rintro e w' ⟨rfl,rfl⟩)
   go_ret;exact ret_one (d.alloc _) (dT _ _ _) d.size
  ·have Hb:=za hb;clear hb;simp only [if_true]
   go_enter Tryz.func263,Tryz.ntmps263
   go_upto_region 1 with fail
   generalize w.alloc _=y at *;have c0:=F.cell;obtain⟨lo,hi,C⟩:=(HN.out y d).sys;obtain⟨b,o,s',B,n,c',rfl,_,_,J,M,e1,e2,u⟩:=C.sys hip;obtain rfl:s=s':=by have:=J.out;rw [Hs.out] at this;exact Option.some.inj this
   rw [D.out] at M;have aj:=za u.1;have HR:=za (fun W (hW:Ext y W)=>u.2.ext hW);have aY:=u.2.len;clear e1 C u;go_upto_region 6 with (go_at_call 112;with_reducible refine (zao I l V _ oM).mono ?_;rw [Hb.out];rintro e w' ⟨rfl,rfl⟩)
   have X:w.heap.size<=y.heap.size:=d.size;have aa:=World.ownsRow_lit (base:=y.heap.size) (e:=3) (size:=1) y #[] 0 (cY _) lM rfl;generalize U0:y.alloc _=w2 at *;have H:=Ext.al_ U0;have am:=(F.ext H).cell;have ao:=H.aa e2;clear U0;clear c0 M e2;go_wp2_with fail
   go_loopw [9,11] (fun v j wr=>∃ k:Nat,k<=n∧j=.int .i64 k∧wr.ownsRow y.heap.size 3 1 v (chE (s.edges.take k) q l).length (zas (chE (s.edges.take k) q l))∧Ext y wr) (fun _ j _=>n - (intOf j).toNat)
   case atStart=>exact⟨0,dD _,rfl,aa,H⟩
   case round =>
    clear aa am ao H;obtain⟨k,hk,rfl,zjc,hx⟩:=hrel
    by_cases hlt:k<n
    ·obtain⟨b',o',x,rfl,_,_,Z,d0,d1,d2⟩:=(HR.out wr hx).edge hlt;obtain⟨⟨f0,f1⟩,⟨l0,l1⟩,⟨t0,t1⟩⟩:=Hf.out x (cX Z.out);have g:=za (chE_take Z.out q l);have aK:=af.out k
     by_cases hfr:x.fr=(q:Int)
     ·by_cases hle:x.le=(l:Int)
      ·obtain⟨t,ht⟩:∃ t:Nat,x.ta=t:=⟨x.ta.toNat,oM⟩;rw [hfr] at d0;rw [hle] at d1;rw [ht] at d2;have f:=za (show chE (s.edges.take (k+1)) q l=chE (s.edges.take k) q l++[t] by rw [g.out,if_pos ⟨hfr,hle⟩,ht];rfl);clear hfr hle f0 f1 l0 l1 t0 t1 ht g;generalize chE (s.edges.take k) q l=cs at *;go_wp2_with (at_builtin;refine zL y wr rfl _ _ _ rfl 3 _ 1 8 Tryz.underlying74 zae rfl dM u9 _ _ _ _ rfl rfl hx zjc rfl (zbq _) lM oM ?_;intro v' w5 hext5 zjo hg5 hat5)
       go_roundw
       case rel=>exact⟨k+1,oM,gM,by rw [f.out,dL,zdC];exact zjo,hext5⟩
       case measure=>simp [intOf];omega
      ·have aw:(x.le==(l:Int))=false:=by simp;omega
       have f:=za (show chE (s.edges.take (k+1)) q l=chE (s.edges.take k) q l by rw [g.out,if_neg (fun h=>hle h.2),gQ]);rw [hfr] at d0;clear hfr hle f0 f1 l0 l1 t0 t1 g;go_wp2_with fail
       go_roundw
       case rel=>exact⟨k+1,oM,gM,by rw [f.out];exact zjc,hx⟩
       case measure=>simp [intOf];omega
     ·have aw:(x.fr==(q:Int))=false:=by simp;omega
      have f:=za (show chE (s.edges.take (k+1)) q l=chE (s.edges.take k) q l by rw [g.out,if_neg (fun h=>hfr h.1),gQ]);clear hfr f0 f1 l0 l1 t0 t1 g;go_wp2_with fail
      go_roundw
      case rel=>exact⟨k+1,oM,gM,by rw [f.out];exact zjc,hx⟩
      case measure=>simp [intOf];omega
    ·obtain rfl:n=k:=oM;have zjf:=za (show wr.ownsRow w.heap.size 3 1 u9 (chE s.edges q l).length (zas (chE s.edges q l)) by
      rw [dG (oH aj.out)] at zjc;exact zn zjc X)
     obtain⟨A5,c5,rfl⟩:=zi zjf.out;have aB:=d.trans hx;clear zjc;go_wp2;go_ret;exact⟨_,_,rfl,zjf.out,aB⟩
 ·obtain⟨j,hj⟩:∃ j,i=pn+j:=⟨i - pn,oM⟩;subst hj;have R:us[j]?.map zdx=some m:=by
   rw [zbe,List.getElem?_append_right (by simp;have:=r.out;omega),dQ] at hm;rw [← hm]
   congr 2
   simp;have:=r.out;omega
  obtain⟨a,D,rfl⟩:=Option.map_eq_some_iff.1 R;have av:j<an:=by rw [O.out];exact (List.getElem?_eq_some_iff.1 D).1
  have aA:=za (hok.aut a (cX D));have Ha:=za D;have Hq:=za (show q<a.next.length from hq);clear hm R D hok h hq;change Calls _ _ _ _ (zbJ w [aGo a q l])
  go_enter Tryz.func263,Tryz.ntmps263
  go_upto_region 1 with fail
  generalize w.alloc _=y at *;have c0:=F.cell;obtain⟨lo,hi,E⟩:=(HN.out y d).aut;obtain⟨b,o,a',B,m,c,B',m',c',rfl,au,M,e1,e2,Q⟩:=E.aut av;obtain rfl:a=a':=by have:=au.out;rw [Ha.out] at this;exact Option.some.inj this
  have aW:¬ ((pn+j:Nat):Int)<(pn:Int):=oM;have a1:((pn+j:Nat):Int) - (pn:Int)=(j:Int):=oM;have ah:=za Q;clear E Q;go_wp2_with (go_at_call 172;with_reducible refine (zcU ah.out aA.out Hq.out hl).mono (mQ fun w5 Y=>?_))
  go_ret;exact ret_one ((d.trans Y).alloc _) (dT _ _ _) ((d.trans Y).size)
theorem zge (n:Nat)(h:n<9223372036854775808):IntKind.i64.wrap (n:Int)=(n:Int):=by rw [IntKind.wrap_i64];omega
theorem chs_fst (ms:List Mem) (x l:Nat):(chs ms x l).map Prod.fst=ms.map Prod.fst:=by
 induction ms with
 |nil=>rfl
 |cons m r ih=>simp [chs,ih]
theorem zcX.choices {us:List Aut}(h:zcX ss us) {m:Mem}(hm:m∈zbe ss us) (hq:q<m.1)(hl:l<6):(∀ x∈m.2 q l,x<m.1)∧(m.2 q l).length<=m.1:=by
 refine⟨(h.ok m hm).2 q l hq hl,?_⟩;rcases List.mem_append.1 hm with b|b
 ·obtain⟨s,d,rfl⟩:=List.mem_map.1 b;exact cho_len (zcR (h.sys s d)) hq
 ·obtain⟨a,c,rfl⟩:=List.mem_map.1 b;have:=(zk (h.aut a c)).2.1.1;simp only [zdx];simpa using this
theorem zcX.fwd_ {us:List Aut}(h:zcX ss us) (x:Nat) (hl:l<6) (k:Nat):(fwd ((chs (zbe ss us) x l).take k)).length<=1048576∧∀ y∈fwd ((chs (zbe ss us) x l).take k),y<1048576:=by
 have d:∀ c∈(chs (zbe ss us) x l).take k,(∀ y∈c.2,y<c.1)∧c.2.length<=c.1:=by
  intro c d;obtain⟨i,f⟩:=dX (List.mem_of_mem_take d);have a:=(List.getElem?_eq_some_iff.1 f).1;rw [zfs] at a;have j:(zbe ss us)[i]?=some (zbe ss us)[i]:=dC a;rw [chs_get j] at f;obtain rfl:=Option.some.inj f;have b:=fO a;exact h.choices b (Nat.mod_lt _ (h.ok _ b).1) hl
 have g:=(h.total (((chs (zbe ss us) x l).take k).map Prod.fst) (by rw [← zfd,← chs_fst _ x l];exact (List.take_sublist _ _).map _)).2;refine⟨dJ (fwd_len fun c hc'=>(d c hc').2) g,fun y hy=>eH (fwd_lt (fun c hc'=>(d c hc').1) y hy) g⟩
theorem spec_l4Nexts {TA:Option Addr} {tc:Nat}  {L:Int}  {us:List Aut}  (h:zeO w PA pn AA an ss us)(hok:zcX ss us)(hS:Lst zbo w lo hi SA (szs ss us))(hT:Lst zbo w lo' hi' TA (dec (szs ss us) x))(hn:(szs ss us).length=n)(hl:l<6) :
  Calls Tryz.prog 242 #[.agg #[.slice PA pn pc,.slice AA an ac,sv,L,K,G],.slice SA n sc,.slice TA n tc,l] w (zbJ w (pnx (zbe ss us) x l)):=by
 obtain⟨C,U0⟩:∃ x,Hid (w.alloc (.cells #[.slice PA pn pc,.slice AA an ac,sv,L,K,G] 178)=x):=⟨_,za rfl⟩;have ah:Ext w C:=((cW w).alloc _).trans (Ext.eq_ U0.out);have aS:=Ext.bl_ U0.out;have HN:=za (fun W (hW:Ext w W)=>h.ext hW);have HS:=za (fun W (hW:Ext w W)=>hS.ext zbo.ok hW);have HT:=za (fun W (hW:Ext w W)=>hT.ext zbo.ok hW);have aQ:=za hok;have bp:n<=5:=by rw [← hn];exact hok.len
 have R:(chs (zbe ss us) x l).length=n:=by rw [zfs,← hn,← zfd,dO]
 have aO:=za (hok.fwd_ x hl);have ao:=za (show ∀ k,k<n->∃ m,(zbe ss us)[k]?=some m∧(szs ss us)[k]?=some m.1∧(dec (szs ss us) x)[k]?=some (x / zZ ((zbe ss us).drop (k+1)) % m.1)∧(chs (zbe ss us) x l)[k]?=some (m.1,m.2 (x / zZ ((zbe ss us).drop (k+1)) % m.1) l)∧1<=m.1∧m.1<=16 from fun k hk=>by
  have Y:k<(zbe ss us).length:=by rw [← zfs _ x l,R];exact hk
  have D:(zbe ss us)[k]?=some (zbe ss us)[k]:=dC Y;have hz:(szs ss us)[k]?=some ((zbe ss us)[k]).1:=by rw [← zfd,dQ,D];rfl
  refine⟨_,D,hz,?_,chs_get D,hok.le16 _ (cX hz)⟩;rw [zik hz,← zfd,← List.map_drop];rfl)
 have am:=za (fwd_pnx (zbe ss us) x l);have aN:=za (fun (m:Mem) (D:m∈zbe ss us) (q l:Nat) (hq:q<m.1) (hl:l<6)=>hok.choices D hq hl);clear h hS hT hok;generalize hK:chs (zbe ss us) x l=KK at *;have ap:=za R;have be:=za hn;clear hK R hn
 go_enter Tryz.func242,Tryz.ntmps242
 go_upto_region 1 with fail
 rw [U0.out] at *;go_upto_region 2 with fail
 have aG:=(cW C).alloc (.cells #[(0:Int)] 3);have aE:w.heap.size<=C.heap.size:=ah.size;have aJ:=World.ownsRow_lit (base:=C.heap.size) (e:=3) (size:=1) C #[(0:Int)] 1 (cY _) lM rfl;generalize hg1:(some ⟨C.heap.size,0,none⟩:Option Addr)=A1 at *;clear hg1;generalize C.alloc _=w2 at *;go_wp2_with fail
 go_loopw [9,10,11,12,13,14] (fun v i _ _ _ _ wr=>∃ (k:Nat) (out:List Nat),i=.int .i64 k∧k<=n∧Hid (out=fwd (KK.take k))∧wr.ownsRow C.heap.size 3 1 v out.length (zas out)∧Ext C wr) (fun _ i _ _ _ _ _=>n - (intOf i).toNat)
 case atStart=>exact⟨0,[0],rfl,dD _,rfl,by simpa [zas] using aJ,aG⟩
 case round =>
  clear aJ aG;obtain⟨k,out,rfl,hk,t,zjc,hx⟩:=hrel;obtain⟨A0,c0,rfl⟩:=zi zjc
  by_cases hlt:k<n
  ·obtain⟨m,D,hz,hd,hc,ay,O⟩:=ao.out k hlt;have Hm:=za D;have Hc:=za hc;obtain⟨aV,ab⟩:=aO.out k;rw [← t.out] at aV ab;have aP:=za ab;obtain⟨q,hq⟩:∃ q:Nat,Hid (x / zZ ((zbe ss us).drop (k+1)) % m.1=q):=⟨_,rfl⟩;have ae:q<m.1:=by rw [← hq.out];exact Nat.mod_lt _ ay
   obtain⟨I,J⟩:=aN.out m (cX D) q l ae hl;have s:=za I;rw [hq.out] at hd;have Q:=za (show KK[k]?=some (m.1,m.2 q l) by rw [Hc.out,hq.out]);obtain⟨p,aD⟩:∃ p:Nat,Hid (m.1=p):=⟨_,rfl⟩;obtain⟨f,S⟩:∃ f:List Nat,Hid (m.2 q l=f):=⟨_,rfl⟩;have Y:k<(dec (szs ss us) x).length:=(List.getElem?_eq_some_iff.1 hd).1;have ai:=ah.trans hx;obtain⟨bt,ot,q',rfl,_,_,E,aw⟩:=(HT.out wr ai).num Y;obtain rfl:q=q':=by have:=E.out;rw [hd] at this;exact Option.some.inj this
   obtain⟨bz,oz,z',rfl,_,_,aI,T⟩:=(HS.out wr ai).num (List.getElem?_eq_some_iff.1 hz).1;obtain rfl:m.1=z':=by have:=aI.out;rw [hz] at this;exact Option.some.inj this
   have aq:=za ae;rw [aD.out] at T ay O J;rw [S.out] at J s;rw [aD.out] at s Q;rw [S.out] at Q;have ag:=za (show fwd (KK.take (k+1))=out.flatMap fun o=>f.map fun y=>o*p+y by
    rw [dH,Q.out,eD,zin,← t.out])
   have CT:∀ W,Ext wr W->W.cell? ⟨bt,ot+k,none⟩=some (.int .i64 (q:Nat)):=fun W hW=>hW.aa aw;have CB:∀ W,Ext wr W->∀ j,W.cell? ⟨w.heap.size,j,none⟩=#[Value.slice PA pn pc,.slice AA an ac,sv,.int .i64 L,.int .i64 K,.int .i64 G][j]?:=fun W hW=>((aS.ext hx).ext hW).cell;have CC:=za (show ∀ W,Ext wr W->Calls Tryz.prog 263 #[.agg #[.slice PA pn pc,.slice AA an ac,sv,L,K,G],k,q,l] W (zbJ W f) from fun W hW=>by
    have:=zhE (pc:=pc) (ac:=ac) (sv:=sv) (L:=L) (K:=K) (G:=G) (HN.out W (ai.trans hW)) aQ.out Hm.out aq.out hl;rw [S.out] at this;exact this)
   have bn:(k:Int)<(n:Int):=oM;have af:=cW wr;clear aw aI E hz hd hc D ae I ab aq;go_upto_region 5 with fail
   refine uR (fun X=>Ext wr X) [7] (zw.of [0,1,2,3,4,5,6,7,8]) ?_;refine uQ ?_;refine zb fun K hK=>?_;go_simp;refine (CC.out _ af.drew).mono ?_;rintro e g ⟨A4,c4,rfl,u,aH⟩;refine hK.out _ _ ?_;refine pT ?_;refine uQ ?_;refine ze ?_;have F:Ext wr g:=af.drew.trans aH;have ar:=Lst.ah u;have av:=(Lst.ah zjc).ext zbo.ok F;have M:=F.aa T;clear CT CB CC af u aH T;go_upto_region 7 with fail
   have c:=(cW g).alloc (.cells #[] 3);have zjo:=World.ownsRow_lit (base:=g.heap.size) (e:=3) (size:=1) g #[] 0 (cY _) lM rfl;generalize hg1:(some ⟨g.heap.size,0,none⟩:Option Addr)=A5 at *;clear hg1;generalize g.alloc _=w5 at *;have H:=za (fun W (hW:Ext g W)=>av.ext zbo.ok hW);have au:=za (fun W (hW:Ext g W)=>ar.ext zbo.ok hW);have aR:=za (fun W (hW:Ext g W)=>hW.aa M);clear av ar M;go_wp2_with fail
   go_loopw [12,13,14] (fun v i _ wr=>∃ (a:Nat) (r:List Nat),i=.int .i64 a∧a<=out.length∧Hid (r=(out.take a).flatMap fun o=>f.map fun y=>o*p+y)∧wr.ownsRow g.heap.size 3 1 v r.length (zas r)∧Ext g wr) (fun _ i _ _=>out.length - (intOf i).toNat)
   case atStart=>exact⟨0,[],rfl,dD _,by simp [Hid],by simpa [zas] using zjo,c⟩
   case round =>
    clear zjo c;obtain⟨a,r,rfl,ha,aa,zjo,c⟩:=hrel
    by_cases hla:a<out.length
    ·obtain⟨bo,oo,o,rfl,_,_,ho,aT⟩:=(H.out _ c).num hla;have a5:=aP.out o (cX ho.out);have bq:r.length<=16777216:=by
      rw [aa.out];refine dJ (flat_len (k:=f.length) fun z _=>sM) ?_;rw [eO];have:=Nat.mul_le_mul (show min a out.length<=1048576 by omega) (show f.length<=16 by omega);omega
     have aW:=za (show ((out.take (a+1)).flatMap fun o=>f.map fun y=>o*p+y)=r++f.map fun y=>o*p+y by
      rw [dH,ho.out,aa.out];simp)
     clear aT;go_wp2_with fail
     go_loopw [12,14] (fun v i wr=>∃ (b:Nat) (B:List Nat),i=.int .i64 b∧b<=f.length∧Hid (B=r++(f.take b).map fun y=>o*p+y)∧wr.ownsRow g.heap.size 3 1 v B.length (zas B)∧Ext g wr) (fun _ i _=>f.length - (intOf i).toNat)
     case atStart=>exact⟨0,r,rfl,dD _,by simp [Hid],zjo,c⟩
     case round =>
      clear zjo c;obtain⟨b,B,rfl,hb,Z,zjo,c⟩:=hrel
      by_cases hlb:b<f.length
      ·obtain⟨bc,oc,y,rfl,_,_,hy,ax⟩:=(au.out _ c).num hlb;have a8:=s.out y (cX hy.out);have a4:B.length<=16777216+16:=by rw [Z.out,dL,dO,eO];omega
       have az:o*p<=1048576*16:=Nat.mul_le_mul oM O;obtain⟨os,ad⟩:∃ z:Nat,Hid (o*p=z):=⟨_,rfl⟩;have a6:(o:Int)*(p:Int)=(os:Int):=by rw [← ad.out];exact (Int.natCast_mul o p).symm
       rw [ad.out] at az;have aC:=za (show (r++(f.take (b+1)).map fun y=>o*p+y)=B++[os+y] by
        rw [dH,hy.out,Z.out,← ad.out];simp)
       have C1:∀ W,Ext wr W->W.cell? ⟨bo,oo+a,none⟩=some (.int .i64 (o:Nat)):=fun W hW=>(H.out W (c.trans hW)).num2 ho.out;have C2:=fun W (hW:Ext wr W)=>aR.out W (c.trans hW);have C3:∀ W,Ext wr W->W.cell? ⟨bc,oc+b,none⟩=some (.int .i64 (y:Nat)):=fun W hW=>hW.aa ax;have bl:(a:Int)<(out.length:Int):=oM;have bm:(b:Int)<(f.length:Int):=oM;have aF:=cW wr;clear ax;go_upto_region 13 with fail
       refine uR (fun X=>Ext wr X) [15,16] (zw.of [0,1,2,3,4,5,6,7,8,9,10,11,12,13,14,15,16,17]) ?_;refine uQ ?_;refine zd fun K hK=>?_;go_simp;refine hK.out _ _ (aF.drew.alloc _) ?_;refine pT ?_;refine zb fun K hK=>?_;refine zaL g wr.drew _ _ _ rfl 3 _ 1 8 Tryz.underlying74 zae rfl dM u12 B.length (zas B) _ _ rfl rfl (c.drew).size zjo rfl (zbq _) lM oM ?_;intro g5 cap5 w6 d hg6 hat6 hlt6;have aX:IntKind.i64.wrap (IntKind.i64.wrap (os:Int)+(y:Int))=((os+y:Nat):Int):=by rw [zge os oM,← Int.natCast_add,zge (os+y) oM]
       rw [aX] at d;refine hK.out _ _ ?_;refine pT ?_;refine uQ ?_;refine ze ?_;have aj:Ext g w6:=c.drew.grown hg6 (fun q' E=>(zjo.lt q' E).1);go_wp2_with fail
       go_roundw
       case rel=>exact⟨b+1,B++[os+y],gM,oM,by unfold Hid;rw [aC.out],by rw [dL,zdC];exact d,aj⟩
       case measure=>simp [intOf];omega
      ·obtain rfl:b=f.length:=oM;have U:=za (show B=r++f.map fun y=>o*p+y by rw [Z.out,eC]);go_wp2_with fail
       go_roundw
       case rel=>exact⟨a+1,B,gM,oM,by unfold Hid;rw [aW.out,U.out],zjo,c⟩
       case measure=>simp [intOf];omega
    ·obtain rfl:a=out.length:=oM;have V:=za (show r=fwd (KK.take (k+1)) by rw [ag.out,aa.out,eC]);have aj:=hx.trans (F.trans c);have d:=zn zjo (show C.heap.size<=g.heap.size from (hx.trans F).size);go_wp2_with fail
     go_roundw
     case rel=>exact⟨k+1,r,gM,oM,V,d,aj⟩
     case measure=>simp [intOf];omega
  ·obtain rfl:n=k:=oM;have zjf:=za (show out=pnx (zbe ss us) x l by rw [t.out,dG (oH ap.out)];exact am.out);have aB:=za (show zbJ w (pnx (zbe ss us) x l) (.returned (.slice A0 out.length c0)) wr from by
    rw [← zjf.out];exact⟨A0,c0,rfl,zn zjc aE,ah.trans hx⟩)
   clear zjc;go_wp2;go_ret;exact aB.out
theorem info_intss:(Tryz.prog.info? 23).map (fun i=>(i.zero,i.size,i.bytes))=some (some (.slice none 0 0),1,24):=kM
def mvs (d:Nat->Nat->List Nat) (L:List Nat) (N:Nat):List (List (List Nat)):=(List.range N).map fun x=>L.map fun l=>d x l
theorem zcP (d:Nat->Nat->List Nat) (L:List Nat) (N:Nat):(mvs d L N).length=N:=by simp [mvs]
abbrev P3:Lay (List (List Nat)):=LstP (LstP zbo)
theorem P3.ok:Lay.Ok P3:=LstP.ok (LstP.ok zbo.ok)
def RetMv (w:World) (mv:List (List (List Nat))) (e:Ending) (w':World):Prop:=∃ A c,e=.returned (.slice A mv.length c)∧Lst P3 w' w.heap.size w'.heap.size A mv∧Ext w w'
theorem spec_l4Moves {L:Nat}  {us:List Aut} (h:zeO w PA pn AA an ss us)(hok:zcX ss us)(hS:Lst zbo w lo hi SA (szs ss us))(hn:(szs ss us).length=n)(hL:L<64)(hN:N<=1048576) :
  Calls Tryz.prog 207 #[.agg #[.slice PA pn pc,.slice AA an ac,sv,L,K,G],.slice SA n sc,N] w (RetMv w (mvs (pnx (zbe ss us)) (letters L 6) N)):=by
 have HN:=za (fun W (hW:Ext w W)=>h.ext hW);have HS:=za (fun W (hW:Ext w W)=>hS.ext zbo.ok hW);have az:=za hok;have Hn:=za hn;have aZ:n<=5:=by rw [← hn];exact hok.len
 have Hz:=za hok.le16;have aB:Sm L:=tM;have aY:=zB L 6;have ax:=za (show ∀ l∈letters L 6,l<6 from fun l hl=>(zW.1 hl).1);clear h hok hS hn
 go_enter Tryz.func207,Tryz.ntmps207
 go_upto_region 1 with fail
 generalize U0:w.alloc _=B at *;obtain⟨U,aa⟩:=Ext.x1_ U0;clear U0;go_upto_region 2 with fail
 have V:=(cW B).alloc (.cells #[] 23);have ag:w.heap.size<=B.heap.size:=U.size;have ak:=World.ownsRow_lit (base:=B.heap.size) (e:=23) (size:=1) B #[] 0 (cY _) lM rfl;have J:∀ b,(Value.slice (some B.heap.size) 0 0).ownBlock=some b->b<(B.alloc (.cells #[] 23)).heap.size:=fun b hb=>by
  simp [Value.ownBlock] at hb
  simp;omega
 generalize hg1:(some ⟨B.heap.size,0,none⟩:Option Addr)=A1 at *;clear hg1;generalize B.alloc _=w2 at *;have c2:=(aa.ext V).cell;go_upto_region 3 with (go_at_call 61;refine (zU L aB _).mono ?_;rintro e Y ⟨AL,cL,rfl,E,I⟩)
 have aj:=V.trans I;have d:=Lst.ah E;have aF:=I.size;have al:=zg ak I;clear ak E V I c2;generalize hlq:letters L 6=f at *;have aS:=za hlq;clear hlq;go_wp2_with fail
 go_loopw [7,9,10,11,12] (fun v i _ _ _ wr=>∃ k:Nat,i=.int .i64 k∧k<=N∧Grl P3 wr B.heap.size 23 v (mvs (pnx (zbe ss us)) f k)∧Ext B wr∧Lst zbo wr w2.heap.size Y.heap.size AL f∧(∀ b,v.ownBlock=some b->b<w2.heap.size∨Y.heap.size<=b)∧Y.heap.size<=wr.heap.size) (fun _ i _ _ _ _=>N - (intOf i).toNat)
 case atStart=>exact⟨0,rfl,dD _,⟨[],al,fun i r x hr=>by simp at hr⟩,aj,d,fun b hb=>Or.inl (J b hb),cY _⟩
 case round =>
  clear al d J;obtain⟨k,rfl,hk,C,hx,d,R,a0⟩:=hrel;have o:=zcP (pnx (zbe ss us)) f k;obtain⟨A0,c0,rfl⟩:=C.form;rw [o];rw [o] at R;have Z:=za R;clear R
  by_cases hlt:k<N
  ·have ai:=U.trans hx;have aA:=za (show mvs (pnx (zbe ss us)) f (k+1)=mvs (pnx (zbe ss us)) f k++[f.map fun l=>pnx (zbe ss us) k l] by simp [mvs,List.range_succ]);rw [o] at C;go_upto_region 7 with (go_at_call 209;refine (zfj (HS.out _ ai) Hn.out oM Hz.out oM).mono ?_;rintro e z ⟨A4,c4,rfl,p,y⟩)
   have O:(dec (szs ss us) k).length=n:=by rw [zcL];exact Hn.out
   rw [O] at p;rw [O];have HT:=za (fun W (hW:Ext z W)=>(Lst.ah (xs:=dec (szs ss us) k) (c:=c4) (A:=A4) (by rw [O];exact p)).ext zbo.ok hW);clear p;go_upto_region 8 with fail
   have a:=(cW z).alloc (.cells #[] 74);have zjo:=World.ownsRow_lit (base:=z.heap.size) (e:=74) (size:=1) z #[] 0 (cY _) lM rfl;generalize hg1:(some ⟨z.heap.size,0,none⟩:Option Addr)=A5 at *;clear hg1;generalize z.alloc _=w5 at *;have ah:=ai.trans y;have aw:=za (fun W (hW:Ext z W)=>((aa.ext (hx.trans y)).ext hW).cell);have HL:=za (fun W (hW:Ext z W)=>d.ext zbo.ok (y.trans hW));go_wp2_with fail
   go_loopw [11,12] (fun v i wr=>∃ j:Nat,i=.int .i64 j∧j<=f.length∧Grl (LstP zbo) wr z.heap.size 74 v ((f.take j).map fun l=>pnx (zbe ss us) k l)∧Ext z wr) (fun _ i _=>f.length - (intOf i).toNat)
   case atStart=>exact⟨0,rfl,dD _,⟨[],zjo,fun i r x hr=>by simp at hr⟩,a⟩
   case round =>
    clear zjo a;obtain⟨j,rfl,hj,F,a⟩:=hrel;obtain⟨A6,c6,rfl⟩:=F.form;have t:((f.take j).map fun l=>pnx (zbe ss us) k l).length=j:=by simp;omega
    rw [t];rw [t] at F
    by_cases hlj:j<f.length
    ·obtain⟨bl,ol,l,rfl,_,_,hl,ab⟩:=(HL.out _ a).num hlj;have aC:=ax.out l (cX hl.out);have aE:=za (show (f.take (j+1)).map (fun l=>pnx (zbe ss us) k l)=(f.take j).map (fun l=>pnx (zbe ss us) k l)++[pnx (zbe ss us) k l] by rw [dH,hl.out];simp);have CL:∀ W,Ext wr W->W.cell? ⟨bl,ol+j,none⟩=some (.int .i64 (l:Nat)):=fun W hW=>hW.aa ab;have CB:=fun W (hW:Ext wr W)=>aw.out W (a.trans hW);have CC:=za (show ∀ W,Ext wr W->Calls Tryz.prog 242 #[.agg #[.slice PA pn pc,.slice AA an ac,sv,L,K,G],.slice SA n sc,.slice A4 n c4,l] W (zbJ W (pnx (zbe ss us) k l)) from fun W hW=>spec_l4Nexts (HN.out W ((ah.trans a).trans hW)) az.out (HS.out W ((ah.trans a).trans hW)) (HT.out W (a.trans hW)) Hn.out aC);have aX:(j:Int)<(f.length:Int):=oM;have M:=cW wr;obtain⟨H,m,T⟩:=F;rw [t] at m;clear ab;go_upto_region 11 with fail
     refine uR (fun X=>Ext wr X) [8,9,10] (zw.of [0,1,2,3,4,5,6,7,8,9,10,11]) ?_;refine uQ ?_;refine zb fun K hK=>?_;go_simp;refine (CC.out _ M.drew).mono ?_;rintro e w7 ⟨A7,c7,rfl,S,aG⟩;have s:=M.drew.trans aG;refine hK.out _ _ ?_;refine pT ?_;refine zb fun K hK=>?_;go_simp;refine hK.out _ _ ?_;refine pT ?_;refine zb fun K hK=>?_;refine zaL z w7 _ _ _ rfl 74 _ 1 24 Tryz.underlying23 zcd rfl dM (.slice A6 j c6) j H _ _ rfl rfl (a.trans s).size (zg m s) rfl (zaU _ _ _) lM oM ?_;intro g8 cap8 w8 hown8 hg8 hat8 hlt8;refine hK.out _ _ ?_;refine pT ?_;refine uQ ?_;refine ze ?_;have D:Grl (LstP zbo) w8 z.heap.size 74 (.slice (some g8) (j+1) cap8) ((f.take j).map (fun l=>pnx (zbe ss us) k l)++[pnx (zbe ss us) k l]):=by
      have:=Grl.push2 (LstP.ok zbo.ok) (v:=.slice A6 j c6) (xs:=(f.take j).map fun l=>pnx (zbe ss us) k l) (g:=g8) (cap:=cap8) T (by rw [t];exact m) s ⟨A7,c7,rfl,Lst.ah S⟩ (cY wr.heap.size) a.size (cY _) (by rw [t];exact hown8) hg8 hat8;rwa [t] at this
     have aH:Ext z w8:=(a.trans s).grown hg8 (fun q' hq'=>(m.lt q' hq').1);go_wp2_with fail
     go_roundw
     case rel=>exact⟨j+1,gM,oM,by rw [aE.out];exact D,aH⟩
     case measure=>simp [intOf];omega
    ·obtain rfl:j=f.length:=oM;rw [eC] at F;have u:=y.trans a;have ad:=F.lst (LstP.ok zbo.ok);obtain⟨H,m,T⟩:=C;rw [o] at m;go_wp2_with (at_builtin;refine zL B wr rfl _ _ _ rfl 23 _ 1 24 Tryz.underlying224 info_intss rfl dM (.slice A0 k c0) k H _ _ rfl rfl (hx.trans u) (zg m u) rfl (zaU _ _ _) lM oM ?_;intro v8 w8 hext8 hown8 hg8 hat8)
     have D:Grl P3 w8 B.heap.size 23 v8 (mvs (pnx (zbe ss us)) f k++[f.map fun l=>pnx (zbe ss us) k l]):=
      Grl.push P3.ok (v:=.slice A0 k c0) T (by rw [o];exact m) u (⟨A6,c6,sM,ad⟩:P3 _ _ _ (.slice A6 f.length c6) _) y.size (hx.trans y).size (cY _) (by rw [o];exact hown8) hg8 hat8
     have Q:Lst zbo w8 w2.heap.size Y.heap.size AL f:=(d.ext zbo.ok u).frm zbo.ok (Frm.ae hg8) (fun q h1 h2 hq=>by have:=Z.out q hq;omega);have ae:∀ b,v8.ownBlock=some b->b<w2.heap.size∨Y.heap.size<=b:=fun b hb=>by
      rcases hat8 with h1|h1
      ·rw [h1] at hb;exact Z.out b hb
      ·rw [h1] at hb;have:=Option.some.inj hb;have:=u.size;omega
     have aD:Y.heap.size<=w8.heap.size:=by have:=u.size;have:=(Frm.ae hg8).size;omega
     go_roundw
     case rel=>exact⟨k+1,gM,oM,by rw [aA.out];exact D,hext8,Q,ae,aD⟩
     case measure=>simp [intOf];omega
  ·obtain rfl:N=k:=oM;have af:=za (show RetMv w (mvs (pnx (zbe ss us)) f N) (.returned (.slice A0 N c0)) wr from by
    refine⟨A0,c0,by rw [o],?_,U.trans hx⟩;have:=C.lst P3.ok;exact this.more P3.ok ag (cY _))
   clear C;go_wp2;go_ret;exact af.out
section
variable (d:Nat->Nat->List Nat) (L:List Nat) (goal:Nat->Bool)
def Dn:Nat->Nat->Prop
 |0,x=>goal x=true
 |n+1,x=>∃ l∈L,∃ y∈d x l,Dn n y
def Mn (n x:Nat):Prop:=Dn d L goal n x∧∀ m,m<n->¬ Dn d L goal m x
end
section
variable {d:Nat->Nat->List Nat} {L:List Nat} {goal:Nat->Bool} {start:List Nat} {N:Nat}
theorem Dn.word:∀ {n x:Nat} {v:List Nat},Dn d L goal n x->zcW d start v x->∃ u:List Nat,u.length=n∧(∀ l∈u,l∈L)∧∃ y,zcW d start (v++u) y∧goal y=true:=by
 intro n
 induction n with
 |zero=>intro x v h hg;exact⟨[],rfl,sM,x,by simpa using hg,h⟩
 |succ n ih =>
  intro x v h hg;obtain⟨l,i,y,j,h⟩:=h;obtain⟨u,b,c,z,f,g⟩:=ih h (.snoc hg j);refine⟨l :: u,by simp [b],?_,z,by simpa using f,g⟩;intro k a;rcases List.mem_cons.1 a with rfl|a
  ·exact i
  ·exact c k a
theorem zcW.dn:∀ {u v:List Nat} {y:Nat},zcW d start (v++u) y->goal y=true->(∀ l∈u,l∈L)->∃ x,zcW d start v x∧Dn d L goal u.length x:=by
 intro u
 induction u with
 |nil=>intro v y h hg _;exact⟨y,by simpa using h,hg⟩
 |cons l u ih =>
  intro v y h hg hl;have a:zcW d start ((v++[l])++u) y:=by simpa using h
  obtain⟨x,b,c⟩:=ih a hg (fun k hk=>hl k (by simp [hk]));obtain⟨n,f,hx⟩:=b.inv;exact⟨n,f,l,hl l sM,x,hx,c⟩
theorem Dn.least (h:Dn d L goal n x):∃ m,m<=n∧Mn d L goal m x:=by
 induction n using Nat.strongRecOn with
 |_ n ih =>
  by_cases hm:∃ m,m<n∧Dn d L goal m x
  ·obtain⟨m,a,b⟩:=hm;obtain⟨k,f,c⟩:=ih m a b;exact⟨k,oM,c⟩
  ·exact⟨n,cY _,h,fun m a b=>hm ⟨m,a,b⟩⟩
theorem Mn.next (h:Mn d L goal (n+1) x):∃ l∈L,∃ y∈d x l,Mn d L goal n y:=by
 obtain⟨⟨l,a,y,b,c⟩,f⟩:=h;exact⟨l,a,y,b,c,fun m hm hd=>f (m+1) oM ⟨l,a,y,b,hd⟩⟩
theorem Mn.uniq (h:Mn d L goal m x) (k:Mn d L goal n x):m=n:=by
 rcases eN m n with a|a|a
 ·exact absurd h.1 (k.2 m a)
 ·exact a
 ·exact absurd k.1 (h.2 n a)
def Dst (d:Nat->Nat->List Nat) (L:List Nat) (goal:Nat->Bool) (k:Nat) (x:Nat) (v:Int):Prop:=(v = -1∧∀ m,m<k->¬ Dn d L goal m x)∨∃ n:Nat,n<k∧v=n∧Mn d L goal n x
def zbw (d:Nat->Nat->List Nat) (L:List Nat) (goal:Nat->Bool) (N k i:Nat) (ds:List Int):Prop:=ds.length=N∧∀ (x:Nat) (v:Int),ds[x]?=some v->Dst d L goal (if x<i then k+1 else k) x v
theorem zbw.round_ (h:zbw d L goal N k N ds):zbw d L goal N (k+1) 0 ds:=⟨h.1,fun x v hx=>by
 have h1:=h.2 x v hx
 have h2:=(List.getElem?_eq_some_iff.1 hx).1
 rw [if_pos (by rw [← h.1];exact h2)] at h1
 rw [if_neg oM]
 exact h1⟩
theorem zbw.init (hl:ds.length=N)(h:∀ (x:Nat) (v:Int),ds[x]?=some v->v=if goal x then 0 else -1):zbw d L goal N 1 0 ds:=⟨hl,fun x v hx=>by
 rw [if_neg oM]
 have:=h x v hx
 cases hg:goal x
 ·rw [hg] at this
  refine Or.inl ⟨by simpa using this,fun m hm=>?_⟩
  obtain rfl:m=0:=oM
  simp [Dn,hg]
 ·rw [hg] at this
  exact Or.inr ⟨0,oM,by simpa using this,hg,fun m hm=>oM⟩⟩
theorem zbw.skip (h:zbw d L goal N k i ds)(hv:ds[i]?=some v)(h0:0<=v):zbw d L goal N k (i+1) ds:=⟨h.1,fun x u hx=>by
 have h1:=h.2 x u hx
 by_cases hxi:x=i
 ·subst hxi
  rw [hv] at hx
  obtain rfl:=Option.some.inj hx
  rw [if_pos oM]
  rw [if_neg oM] at h1
  rcases h1 with ⟨h2,_⟩|⟨n,h2,h3⟩
  ·omega
  ·exact Or.inr ⟨n,oM,h3⟩
 ·by_cases h2:x<i
  ·rw [if_pos h2] at h1
   rw [if_pos oM]
   exact h1
  ·rw [if_neg h2] at h1
   rw [if_neg oM]
   exact h1⟩
def ziz (d:Nat->Nat->List Nat) (L:List Nat) (ds:List Int) (k:Nat) (x:Nat):Bool:=L.any fun l=>(d x l).any fun y=>ds.getD y (-1)==(k:Int)
theorem near_iff :ziz d L ds k x=true↔∃ l∈L,∃ y∈d x l,ds[y]?=some (k:Int):=by
 simp only [ziz,List.any_eq_true,beq_iff_eq];constructor
 ·rintro ⟨l,a,y,b,h⟩;refine⟨l,a,y,b,?_⟩;rw [dI] at h;cases hh:ds[y]? with
  |none=>rw [hh] at h;simp at h
  |some v=>rw [hh] at h;simp at h;rw [h]
 ·rintro ⟨l,a,y,b,h⟩;exact⟨l,a,y,b,by rw [dI,h];rfl⟩
theorem zbw.near (h:zbw d L goal N (k+1) i ds)(hd:∀ x l,x<N->l∈L->∀ y∈d x l,y<N)(hv:ds[i]?=some v)(h0:v<0):ziz d L ds k i=true↔Mn d L goal (k+1) i:=by
 have p:i<N:=by rw [← h.1];exact (List.getElem?_eq_some_iff.1 hv).1
 have u:=h.2 i v hv;rw [if_neg oM] at u;have g:∀ m,m<k+1->¬ Dn d L goal m i:=by
  rcases u with ⟨_,b⟩|⟨n,_,c,_⟩
  ·exact b
  ·omega
 have s:∀ y (n:Nat),ds[y]?=some (n:Int)->Mn d L goal n y:=fun y n a=>by
  rcases h.2 y _ a with ⟨b,_⟩|⟨m,_,b,c⟩
  ·omega
  ·obtain rfl:n=m:=oM;exact c
 rw [near_iff];constructor
 ·rintro ⟨l,f,y,a,r⟩;exact⟨⟨l,f,y,a,(s y k r).1⟩,g⟩
 ·rintro ⟨⟨l,f,y,a,b⟩,_⟩;refine⟨l,f,y,a,?_⟩;have q:y<ds.length:=by rw [h.1];exact hd i l p f y a
  have j:ds[y]?=some ds[y]:=dC q;rw [j]
  congr 1
  rcases h.2 y _ j with ⟨_,c⟩|⟨n,_,c,t⟩
  ·exact absurd b (c k (by split<;>omega))
  ·rw [c];rcases eN n k with o|o|o
   ·exact absurd ⟨l,f,y,a,t.1⟩ (g (n+1) oM)
   ·rw [o]
   ·exact absurd b (t.2 k o)
theorem zbw.aq (h:zbw d L goal N (k+1) i ds)(hd:∀ x l,x<N->l∈L->∀ y∈d x l,y<N)(hv:ds[i]?=some v)(h0:v<0)(hn:ziz d L ds k i=false):zbw d L goal N (k+1) (i+1) ds:=⟨h.1,fun x u hx=>by
 have h1:=h.2 x u hx
 by_cases hxi:x=i
 ·subst hxi
  have hM:¬ Mn d L goal (k+1) x:=fun hm=>by rw [(h.near hd hv h0).2 hm] at hn;cases hn
  rw [hv] at hx
  obtain rfl:=Option.some.inj hx
  rw [if_pos oM]
  rw [if_neg oM] at h1
  rcases h1 with ⟨h2,h3⟩|⟨n,h2,h3,_⟩
  ·refine Or.inl ⟨h2,fun m hm hdm=>?_⟩
   by_cases he:m=k+1
   ·subst he
    exact hM ⟨hdm,h3⟩
   ·exact h3 m oM hdm
  ·omega
 ·by_cases h2:x<i
  ·rw [if_pos h2] at h1
   rw [if_pos oM]
   exact h1
  ·rw [if_neg h2] at h1
   rw [if_neg oM]
   exact h1⟩
theorem zbw.put (h:zbw d L goal N (k+1) i ds)(hd:∀ x l,x<N->l∈L->∀ y∈d x l,y<N)(hv:ds[i]?=some v)(h0:v<0)(hn:ziz d L ds k i=true):zbw d L goal N (k+1) (i+1) (ds.set i ((k+1:Nat):Int)):=⟨by rw [List.length_set];exact h.1,fun x u hx=>by
 by_cases hxi:x=i
 ·subst hxi
  rw [List.getElem?_set_self (List.getElem?_eq_some_iff.1 hv).1] at hx
  obtain rfl:=Option.some.inj hx
  rw [if_pos oM]
  exact Or.inr ⟨k+1,oM,rfl,(h.near hd hv h0).1 hn⟩
 ·rw [List.getElem?_set_ne (fun e=>hxi e.symm)] at hx
  have h1:=h.2 x u hx
  by_cases h2:x<i
  ·rw [if_pos h2] at h1
   rw [if_pos oM]
   exact h1
  ·rw [if_neg h2] at h1
   rw [if_neg oM]
   exact h1⟩
theorem set_count {u:Int}(hv:ds[i]?=some v)(h0:v = -1)(hu:0<=u):(ds.set i u).count (-1)+1=ds.count (-1):=by
 obtain⟨a,e⟩:=List.getElem?_eq_some_iff.1 hv;have b:1<=ds.count (-1):=List.count_pos_iff.2 (by rw [← h0,← e];exact fO a);rw [List.count_set a,e,h0];have:(u==(-1:Int))=false:=by simp;omega
 simp [this];omega
def DsFin (d:Nat->Nat->List Nat) (L:List Nat) (goal:Nat->Bool) (N:Nat) (ds:List Int):Prop:=ds.length=N∧∀ (x:Nat) (v:Int),ds[x]?=some v->(v = -1∧∀ m,¬ Dn d L goal m x)∨∃ n:Nat,v=n∧Mn d L goal n x
theorem zbw.fin (h:zbw d L goal N k N ds)(hd:∀ x l,x<N->l∈L->∀ y∈d x l,y<N)(hno:∀ x,x<N->¬ Mn d L goal k x):DsFin d L goal N ds:=by
 have p:∀ n x,x<N->¬ Mn d L goal (k+n) x:=by
  intro n
  induction n with
  |zero=>exact hno
  |succ n ih =>
   intro x hx hm;obtain⟨l,j,y,o,c⟩:=hm.next;exact ih y (hd x l hx j y o) c
 refine⟨h.1,fun x v hx=>?_⟩;have a:x<N:=by rw [← h.1];exact (List.getElem?_eq_some_iff.1 hx).1
 have c:=h.2 x v hx;rw [if_pos a] at c;rcases c with ⟨i,f⟩|⟨n,_,f⟩
 ·refine Or.inl ⟨i,fun m hm=>?_⟩;obtain⟨b,_,g⟩:=hm.least
  by_cases h5:b<k
  ·exact f b oM g.1
  ·have:=p (b - k) x a;rw [show k+(b - k)=b by omega] at this;exact this g
 ·exact Or.inr ⟨n,f⟩
theorem DsFin.val (h:DsFin d L goal N ds) (hx:x<N):ds[x]?=some (n:Int)↔Mn d L goal n x:=by
 have f:x<ds.length:=by rw [h.1];exact hx
 have c:ds[x]?=some ds[x]:=dC f;constructor
 ·intro h1;rcases h.2 x _ h1 with ⟨a,_⟩|⟨m,a,b⟩
  ·omega
  ·obtain rfl:n=m:=oM;exact b
 ·intro hm;rw [c];rcases h.2 x _ c with ⟨_,a⟩|⟨m,a,b⟩
  ·exact absurd hm.1 (a n)
  ·rw [a,b.uniq hm]
theorem wval_lt (w:List Nat)(h:∀ l∈w,l<6):zcr w<7 ^ w.length∧7 ^ w.length<=6*zcr w+1:=by
 have a:∀ n (w:List Nat),w.length=n->(∀ l∈w,l<6)->zcr w<7 ^ n∧7 ^ n<=6*zcr w+1:=by
  intro n
  induction n with
  |zero =>
   intro w hw _;obtain rfl:=dU hw;simp [zcr]
  |succ n ih =>
   intro w hw hl;rcases zba w with rfl|⟨u,l,rfl⟩
   ·simp at hw
   ·have b:=ih u (by simpa using hw) (fun x hx=>hl x (by simp [hx]));have c:=hl l sM;rw [zaE,Nat.pow_succ];omega
 exact a w.length w rfl h
theorem zhs {u v:List Nat}(hu:∀ l∈u,l<6)(hv:∀ l∈v,l<6)(h:v.length<u.length):zcr v<zcr u:=by
 have b:=wval_lt u hu;have c:=wval_lt v hv;have a:7 ^ (v.length+1)<=7 ^ u.length:=dV oM h;rw [Nat.pow_succ] at a;omega
structure zdq (d:Nat->Nat->List Nat) (L:List Nat) (goal:Nat->Bool) (start:List Nat) (at_:List Nat) (v:List Nat) (r:Nat):Prop where
 goes:∀ x∈at_,zcW d start v x∧Mn d L goal r x
 all:∀ x,zcW d start v x->Dn d L goal r x->x∈at_
 first:∀ u:List Nat,(∀ l∈u,l∈L)->u.length=v.length->zcr u<zcr v->∀ x,zcW d start u x->¬ Dn d L goal r x
 least:∀ u:List Nat,(∀ l∈u,l∈L)->u.length<v.length+r->∀ x,zcW d start u x->goal x=false
 letters:∀ l∈v,l∈L
 some_:at_≠[]
theorem zdq.begin_ (h:Mn d L goal r x):zdq d L goal [x] [x] [] r:=by
 refine⟨fun y hy=>?_,fun y hy _=>hy.aj,fun u _ hu=>?_,fun u hl hu y hy=>?_,sM,sM⟩
 ·simp at hy;subst hy;exact⟨.nil sM,h⟩
 ·simp at hu;subst hu;intro h;simp [zcr] at h
 ·simp at hu;cases hg:goal y
  ·rfl
  ·exfalso;obtain⟨z,b,a⟩:=zcW.dn (v:=[]) (u:=u) (by simpa using hy) hg hl;have:=b.aj;simp at this;subst this;exact h.2 u.length oM a
theorem zdq.fin {v:List Nat}(h:zdq d L goal start at_ v 0)(hL:∀ l∈L,l<6):Found d start goal L v:=by
 refine⟨h.letters,?_,fun u hu hlt x hx=>?_⟩
 ·obtain⟨x,hx⟩:=List.exists_mem_of_ne_nil _ h.some_;exact⟨x,(h.goes x hx).1,(h.goes x hx).2.1⟩
 ·rcases eN u.length v.length with a|a|a
  ·exact h.least u hu oM x hx
  ·have:=h.first u hu a hlt x hx
   cases hg:goal x
   ·rfl
   ·exact absurd hg this
  ·have:=zhs (u:=u) (v:=v) (fun l hl=>hL l (hu l hl)) (fun l hl=>hL l (h.letters l hl)) a;omega
theorem zdq.exists_ {v:List Nat} (h:zdq d L goal start at_ v (r+1)):∃ (k l:Nat),L[k]?=some l∧∃ x n,n∈at_∧x∈d n l∧Mn d L goal r x:=by
 obtain⟨n,a⟩:=List.exists_mem_of_ne_nil _ h.some_;obtain⟨l,f,y,g,b⟩:=(h.goes n a).2.next;obtain⟨k,c⟩:=dX f;exact⟨k,l,c,y,n,a,g,b⟩
theorem zdq.step {v next:List Nat} (h:zdq d L goal start at_ v (r+1))(hL:Rise L)(hk:L[k]?=some l)(hn:∀ x,x∈next↔∃ n∈at_,x∈d n l∧Mn d L goal r x)(hne:next≠[])
  (hno:∀ (j m:Nat),j<k->L[j]?=some m->∀ n∈at_,∀ x∈d n m,¬ Mn d L goal r x):zdq d L goal start next (v++[l]) r:=by
 have t:∀ l∈L,l<6:=hL.1;have c:=cX hk;have f:∀ (u:List Nat),(∀ m∈u,m∈L)->u.length=v.length+1->∀ x,zcW d start u x->Dn d L goal r x->Mn d L goal r x:=by
  intro u hu hlen x hx hd;refine⟨hd,fun m hm hdm=>?_⟩;obtain⟨s,g,b,y,C,F⟩:=hdm.word hx;have:=h.least (u++s) (fun z hz=>by
   rcases List.mem_append.1 hz with a|a
   ·exact hu z a
   ·exact b z a) (by rw [dL];omega) y C
  rw [this] at F;cases F
 refine⟨fun x hx=>?_,fun x hx hd=>?_,fun u hu hlen hlt x hx hd=>?_,fun u hu hlen=>?_,?_,hne⟩
 ·obtain⟨n,g,b,C⟩:=(hn x).1 hx;exact⟨.snoc (h.goes n g).1 b,C⟩
 ·obtain⟨n,g,b⟩:=hx.inv;have E:n∈at_:=h.all n g ⟨l,c,x,b,hd⟩;exact (hn x).2 ⟨n,E,b,f (v++[l]) (fun m hm=>by
   rcases List.mem_append.1 hm with a|a
   ·exact h.letters m a
   ·rw [List.mem_singleton.1 a];exact c) sM x hx hd⟩
 ·rcases zba u with rfl|⟨u,m,rfl⟩
  ·simp at hlen
  ·obtain⟨n,g,b⟩:=hx.inv;have o:=hu m sM;have q:∀ z∈u,z∈L:=fun z hz=>hu z (by simp [hz]);have i:u.length=v.length:=by simpa using hlen
   have p:Dn d L goal (r+1) n:=⟨m,o,x,b,hd⟩;rw [zaE,zaE] at hlt;have H:=t m o;have G:=t l c
   by_cases hw:zcr u<zcr v
   ·exact h.first u q i hw n g p
   ·have e:zcr u=zcr v:=oM;obtain rfl:=wval_inj _ u v (cY _) (fun z hz=>t z (q z hz)) (fun z hz=>t z (h.letters z hz)) e;obtain⟨j,B⟩:=dX o;have D:j<k:=by
     rcases eN j k with a|a|a
     ·exact a
     ·subst a;rw [hk] at B;have:=Option.some.inj B;omega
     ·have:=hL.2 k j _ _ hk B a;omega
    exact hno j m D B n (h.all n g p) x b (f _ hu sM x hx hd)
 ·exact h.least u hu (by rw [dL,eA] at hlen;omega)
 ·intro m hm;rcases List.mem_append.1 hm with a|a
  ·exact h.letters m a
  ·rw [List.mem_singleton.1 a];exact c
theorem lost_of (h:∀ m,¬ Dn d L goal m x):Lost d [x] goal L:=fun v hv y hy=>by
 cases hg:goal y
 ·rfl
 ·exfalso
  obtain⟨z,hz,hd⟩:=zcW.dn (v:=[]) (u:=v) (by simpa using hy) hg hv
  have:=hz.aj
  simp at this
  subst this
  exact h _ hd
theorem goes_congr {d':Nat->Nat->List Nat} {start:List Nat} (hs:∀ x∈start,x<N)(hd:∀ x l,x<N->l∈L->(∀ y,y∈d x l↔y∈d' x l)∧∀ y∈d x l,y<N) {v:List Nat}(hv:∀ l∈v,l∈L):∀ {x:Nat},(zcW d start v x↔zcW d' start v x)∧(zcW d start v x->x<N):=by
 have g:∀ n (v:List Nat),v.length=n->(∀ l∈v,l∈L)->∀ x,(zcW d start v x↔zcW d' start v x)∧(zcW d start v x->x<N):=by
  intro n
  induction n with
  |zero =>
   intro v hv _ x;obtain rfl:=dU hv;exact⟨⟨fun h=>.nil h.aj,fun h=>.nil h.aj⟩,fun h=>hs x h.aj⟩
  |succ n ih =>
   intro v hn hv x;rcases zba v with rfl|⟨u,l,rfl⟩
   ·simp at hn
   ·have f:=hv l sM;have a:=ih u (by simpa using hn) (fun m hm=>hv m (by simp [hm]));refine⟨⟨fun h=>?_,fun h=>?_⟩,fun h=>?_⟩
    ·obtain⟨m,b,c⟩:=h.inv;exact .snoc ((a m).1.1 b) (((hd m l ((a m).2 b) f).1 x).1 c)
    ·obtain⟨m,b,c⟩:=h.inv;have i:=(a m).1.2 b;exact .snoc i (((hd m l ((a m).2 i) f).1 x).2 c)
    ·obtain⟨m,b,c⟩:=h.inv;exact (hd m l ((a m).2 b) f).2 x c
 exact fun {x}=>g v.length v rfl hv x
theorem zeD {l:List Nat}(h:l.Nodup) (hl:∀ x∈l,x<p):l.length<=p:=by
 have a:l ⊆ List.range p:=fun x hx=>List.mem_range.2 (hl x hx);have:=List.Nodup.length_le_of_subset h a;simpa using this
theorem Mn.lt (h:Mn d L goal n x)(hx:x<N)(hd:∀ x l,x<N->l∈L->∀ y∈d x l,y<N):n<N:=by
 have c:∀ n x,x<N->Mn d L goal n x->∃ b:List Nat,b.length=n+1∧b.Nodup∧∀ y∈b,y<N∧∃ m,m<=n∧Mn d L goal m y:=by
  intro n
  induction n with
  |zero=>intro x hx h;exact⟨[x],rfl,sM,fun y a=>by simp at a;subst a;exact⟨hx,0,cY _,h⟩⟩
  |succ n ih =>
   intro x hx h;obtain⟨l,r,y,a,k⟩:=h.next;obtain⟨b,f,g,o⟩:=ih y (hd x l hx r y a) k;refine⟨x :: b,by simp [f],List.nodup_cons.2 ⟨fun hm=>?_,g⟩,fun z j=>?_⟩
   ·obtain⟨_,m,s,i⟩:=o x hm;have:=h.uniq i;omega
   ·rcases List.mem_cons.1 j with rfl|j
    ·exact⟨hx,n+1,cY _,h⟩
    ·obtain⟨p,m,t,q⟩:=o z j;exact⟨p,m,oM,q⟩
 obtain⟨b,k,f,g⟩:=c n x hx h;have:=zeD f fun y a=>(g y a).1;omega
end
def IntP:Lay Int:=fun _ _ _ r n=>r=.int .i64 n
theorem IntP.ok:Lay.Ok IntP:=⟨fun h _ _=>h,fun h _ _=>h⟩
theorem Lst.bf (h:Reads W lo hi 1 A xs.length (ints xs)):Lst IntP W lo hi A xs:=⟨ints xs,h,fun i r x hr hx=>by
 simp only [ints,dQ,hx,Option.map_some] at hr
 exact (Option.some.inj hr).symm⟩
theorem Lst.int (h:Lst IntP W lo hi A xs)(hk:k<xs.length):∃ b o x,A=some ⟨b,o,none⟩∧lo<=b∧b<hi∧Hid (xs[k]?=some x)∧W.cell? ⟨b,o+k,none⟩=some (.int .i64 x):=by
 obtain⟨b,o,r,x,e,a,c,d,f,g⟩:=h.get hk;exact⟨b,o,x,e,a,c,d,by rw [f,g]⟩
def nearL (rows:List (List Nat)) (ds:List Int) (k:Int):Bool:=rows.any fun ys=>ys.any fun y=>ds.getD y (-1)==k
theorem near_row {d:Nat->Nat->List Nat}   :nearL (L.map fun l=>d x l) ds (k:Int)=ziz d L ds k x:=by
 unfold nearL ziz;rw [List.any_map];rfl
theorem any_stop {α:Type} {l:List α} {p:α->Bool}  {x:α}(h:l[k]?=some x)(hp:p x=true):l.any p=true:=List.any_eq_true.2 ⟨x,cX h,hp⟩
theorem any_step {α:Type} {l:List α} {p:α->Bool}  {x:α}(h:l[k]?=some x)(hk:(l.take k).any p=false)(hp:p x=false):(l.take (k+1)).any p=false:=by
 rw [dH,h];simp [hk,hp]
theorem spec_l4Near {rows:List (List Nat)}  {k:Int} (h:Lst (LstP zbo) w lo hi A rows)(h':Lst IntP w lo' hi' B ds)(hr:rows.length=r)(hn:ds.length=n)(hb:∀ ys∈rows,∀ y∈ys,y<n) :
  Calls Tryz.prog 244 #[.slice A r c,.slice B n c',k] w fun e w'=>e=.returned (.bool (nearL rows ds k))∧w=w':=by
 have E:=za hb;have C:=za hr;have F:=za hn;have t:=h.len;have u:=h'.len;rw [hr] at t;rw [hn] at u;clear hb hr hn
 go_enter Tryz.func244,Tryz.ntmps244
 go_wp2
 go_loop [7,8] (fun i _=>∃ a:Nat,i=.int .i64 a∧a<=r∧Hid ((rows.take a).any (fun ys=>ys.any fun y=>ds.getD y (-1)==k)=false)) (fun i _=>r - (intOf i).toNat)
 case atStart=>exact⟨0,rfl,dD _,rfl⟩
 case round =>
  obtain⟨a,rfl,R,s⟩:=hrel
  by_cases hlt:a<r
  ·obtain⟨b,o,v,ys,rfl,_,_,l,S,L,Q,rfl,D⟩:=h.get (show a<rows.length by rw [C.out];exact hlt);have I:=D.len;go_wp2
   go_loop [8] (fun i=>∃ j:Nat,i=.int .i64 j∧j<=ys.length∧Hid ((ys.take j).any (fun y=>ds.getD y (-1)==k)=false)) (fun i=>ys.length - (intOf i).toNat)
   case atStart=>exact⟨0,rfl,dD _,rfl⟩
   case round =>
    obtain⟨j,rfl,T,d⟩:=hrel
    by_cases hlj:j<ys.length
    ·obtain⟨M,U,y,rfl,_,_,m,G⟩:=D.num hlj;have z:=E.out ys (cX l.out) y (cX m.out);obtain⟨O,V,v,rfl,_,_,J,H⟩:=h'.int (show y<ds.length by rw [F.out];exact z);have q:=za (show ds.getD y (-1)=v by rw [dI,J.out];rfl)
     by_cases hvk:v=k
     ·subst hvk;have f:=za (show nearL rows ds v=true from any_stop l.out (any_stop m.out (by rw [q.out];simp)));go_wp2;go_ret;exact⟨zj (by rw [f.out]),rfl⟩
     ·have x:(v==k)=false:=by simp;omega
      have g:=za (any_step (p:=fun y=>ds.getD y (-1)==k) m.out d.out (show (ds.getD y (-1)==k)=false by rw [q.out];exact x));go_wp2
      go_round
      case rel=>exact⟨j+1,gM,oM,g⟩
      case measure=>simp [intOf];omega
    ·obtain rfl:j=ys.length:=oM;rw [eC] at d;have g:=za (any_step (p:=fun ys=>ys.any fun y=>ds.getD y (-1)==k) l.out s.out d.out);go_wp2
     go_round
     case rel=>exact⟨a+1,gM,oM,g⟩
     case measure=>simp [intOf];omega
  ·obtain rfl:a=r:=oM;have f:=za (show nearL rows ds k=false by
    have:=s.out;rw [dG (by rw [C.out];exact cY _)] at this;exact this)
   go_wp2;go_ret;exact⟨zj (by rw [f.out]),rfl⟩
theorem zbw.known {d:Nat->Nat->List Nat}  {goal:Nat->Bool}   (h:zbw d L goal N k i ds)(hv:ds[i]?=some v)(h0:0<=v):¬ Mn d L goal k i:=fun hm=>by
 have h1:=h.2 i v hv
 rw [if_neg oM] at h1
 rcases h1 with ⟨h2,_⟩|⟨n,h2,_,h3⟩
 ·omega
 ·have:=h3.uniq hm
  omega
theorem zbw.neg {d:Nat->Nat->List Nat}  {goal:Nat->Bool}    (h:zbw d L goal N k i ds)(hv:ds[x]?=some v)(h0:v<0):v = -1:=by
 rcases h.2 x v hv with ⟨a,_⟩|⟨n,_,a,_⟩
 ·exact a
 ·omega
def RetDs (d:Nat->Nat->List Nat) (L:List Nat) (goal:Nat->Bool) (N base gd cap:Nat) (w:World) (e:Ending) (w':World):Prop:=
 e=.returned (.tuple #[])∧∃ ds',Hid (DsFin d L goal N ds')∧w'.ownsRow base 3 1 (.slice (some gd) N cap) N (ints ds')∧Frm (fun k=>k=gd) w w'
theorem spec_l4Dist {gd:Nat}  {d:Nat->Nat->List Nat}  {goal:Nat->Bool} {ds:List Int} (h:Lst P3 w lo hi A (mvs d L N))(hg:gd<lo∨hi<=gd) (zjc:w.ownsRow base 3 1 (.slice (some gd) N cap) N (ints ds))(hds:zbw d L goal N 1 0 ds)(hN:N<=1048576)(hd:∀ x l,x<N->l∈L->∀ y∈d x l,y<N) :
  Calls Tryz.prog 210 #[.slice A N c,.slice (some gd) N cap] w (RetDs d L goal N base gd cap w):=by
 have Z:=za (fun W (hW:Frm (fun k=>k=gd) w W)=>h.frm P3.ok hW (fun k E O e=>oM));have M:=za hd;have t:=za zjc;have D:=za hds;clear h hd zjc hds
 go_enter Tryz.func210,Tryz.ntmps210
 go_wp2
 go_loopw [4,5,6] (fun m v _ wr=>∃ (k:Nat) (ds:List Int) (g:Bool),m=.bool g∧v=.int .i64 ((k:Int)+1)∧k<=N+1∧Hid (if g=true then zbw d L goal N (k+1) 0 ds∧k+ds.count (-1)<=N else DsFin d L goal N ds)∧wr.ownsRow base 3 1 (.slice (some gd) N cap) N (ints ds)∧Frm (fun k=>k=gd) w wr) (fun _ v _ _=>N+3 - (intOf v).toNat)
 case atStart=>exact⟨0,ds,true,rfl,rfl,oM,(show Hid _ from by
  rw [if_pos rfl];refine⟨D.out,?_⟩;have:=List.count_le_length (l:=ds) (a:=(-1:Int));rw [D.out.1] at this;omega),t.out,Frm.refl _ _⟩
 case round =>
  clear t D;clear ds;obtain⟨k,ds,g,rfl,rfl,hk,b,zjc,f⟩:=hrel;cases g
  ·have zjf:=za (show RetDs d L goal N base gd cap w (.returned (.tuple #[])) wr from ⟨rfl,ds,(show DsFin d L goal N ds by have:=b.out;simpa using this),zjc,f⟩);clear zjc;go_wp2;exact bodyPost_ret (v:=.tuple #[]) (by simp [results,Tryz.results210,go_sem]) rfl zjf.out
  ·obtain⟨z,Q⟩:zbw d L goal N (k+1) 0 ds∧k+ds.count (-1)<=N:=by have:=b.out;simpa using this
   have s:=za z;clear b z;obtain⟨J,F⟩:∃ J,Hid (ds.count (-1)=J):=⟨_,rfl⟩;rw [F.out] at Q;go_wp2
   go_loopw [4,6] (fun m i wr=>∃ (i':Nat) (ds:List Int) (g:Bool),m=.bool g∧i=.int .i64 i'∧i'<=N∧Hid (zbw d L goal N (k+1) i' ds∧ds.count (-1)+(if g=true then 1 else 0)<=J∧(g=false->∀ x,x<i'->¬ Mn d L goal (k+1) x))∧wr.ownsRow base 3 1 (.slice (some gd) N cap) N (ints ds)∧Frm (fun k=>k=gd) w wr) (fun _ i _=>N - (intOf i).toNat)
   case atStart=>exact⟨0,ds,false,rfl,rfl,dD _,(show Hid _ from ⟨s.out,by rw [F.out];simp,fun _ x hx=>oM⟩),zjc,f⟩
   case round =>
    clear s zjc f F;clear ds;obtain⟨i,ds,g,rfl,rfl,hi,b,zjc,f⟩:=hrel
    by_cases hlt:i<N
    ·have n:ds.length=N:=b.out.1.1;obtain⟨bi,oi,v,Y,_,_,I,hcv⟩:=(Lst.bf (xs:=ds) (by rw [n];exact Reads.af zjc)).int (show i<ds.length by omega);obtain⟨rfl,rfl⟩:gd=bi∧0=oi:=by injection Y with e;injection e with e1 e2;exact⟨e1,e2⟩
     rw [Nat.zero_add] at hcv;clear Y
     by_cases hv0:v<0
     ·have V:=b.out.1.neg I.out hv0;subst V;obtain⟨bm,om,r,T,rfl,_,_,R,ae,Ar,cr,rfl,H⟩:=(Z.out wr f).get (show i<(mvs d L N).length by rw [zcP];exact hlt);have B:=za (show T=L.map fun l=>d i l by
       have E:=R.out;rw [mvs,dQ,gH hlt] at E;exact (Option.some.inj E).symm)
      have q:=za (show nearL T ds (k:Int)=ziz d L ds k i by rw [B.out];exact near_row);have o:=Lst.bf (xs:=ds) (by rw [n];exact Reads.af zjc);have X:=za (spec_l4Near (c:=cr) (c':=cap) (k:=(k:Int)) H o rfl n (fun ys hys y hy=>by
       rw [B.out] at hys;obtain⟨l,hl,rfl⟩:=List.mem_map.1 hys;exact M.out i l hlt hl y hy))
      have af:(k:Int)+1 - 1=(k:Int):=oM;cases hnb:ziz d L ds k i
      ·have G:=za (q.out.trans hnb);have j:=za hnb;clear hnb H o;have hst2:=za (show zbw d L goal N (k+1) (i+1) ds∧ds.count (-1)+(if g=true then 1 else 0)<=J∧(g=false->∀ x,x<i+1->¬ Mn d L goal (k+1) x) from
        ⟨b.out.1.aq M.out I.out hv0 j.out,b.out.2.1,fun hm x hx=>by
         by_cases e:x=i
         ·subst e;intro hM;rw [(b.out.1.near M.out I.out hv0).2 hM] at j;exact absurd j.out dM
         ·exact b.out.2.2 hm x oM⟩)
       go_wp2_with (go_at_call 244;with_reducible refine X.out.mono ?_;rw [G.out];rintro e w4 ⟨rfl,rfl⟩)
       go_roundw
       case rel=>exact⟨i+1,ds,g,rfl,gM,oM,hst2,zjc,f⟩
       case measure=>simp [intOf];omega
      ·have G:=za (q.out.trans hnb);have j:=za hnb;clear hnb H o;have hst2:=za (show zbw d L goal N (k+1) (i+1) (ds.set i ((k+1:Nat):Int))∧(ds.set i ((k+1:Nat):Int)).count (-1)+(if true=true then 1 else 0)<=J∧(true=false->∀ x,x<i+1->¬ Mn d L goal (k+1) x) from
        ⟨b.out.1.put M.out I.out hv0 j.out,by
         have E:=set_count (u:=((k+1:Nat):Int)) I.out rfl oM;have O:=b.out.2.1;simp only [if_true];cases g
         ·simp at O;omega
         ·simp at O;omega,fun h=>by cases h⟩)
       have f0:=zjc.frozenAt i;have S:=zjc.stored i (.int .i64 ((k:Int)+1));have C:(ints ds).set i (.int .i64 ((k:Int)+1))=ints (ds.set i ((k+1:Nat):Int)):=by
        rw [ints,ints,List.map_set];rfl
       rw [C] at S;clear C;go_wp2_with (go_at_call 244;with_reducible refine X.out.mono ?_;rw [G.out];rintro e w4 ⟨rfl,rfl⟩)
       go_roundw
       case rel=>exact⟨i+1,_,true,rfl,gM,oM,hst2,S.1,f.cell (p:=⟨gd,i,none⟩) rfl _⟩
       case measure=>simp [intOf];omega
     ·have hst2:=za (show zbw d L goal N (k+1) (i+1) ds∧ds.count (-1)+(if g=true then 1 else 0)<=J∧(g=false->∀ x,x<i+1->¬ Mn d L goal (k+1) x) from
       ⟨b.out.1.skip I.out oM,b.out.2.1,fun hm x hx=>by
        by_cases e:x=i
        ·subst e;exact b.out.1.known I.out oM
        ·exact b.out.2.2 hm x oM⟩)
      go_wp2;go_roundw
      case rel=>exact⟨i+1,ds,g,rfl,gM,oM,hst2,zjc,f⟩
      case measure=>simp [intOf];omega
    ·obtain rfl:N=i:=oM;have zjf:=za (show if g=true then zbw d L goal N (k+1+1) 0 ds∧k+1+ds.count (-1)<=N else DsFin d L goal N ds by
      obtain⟨E,O,h3⟩:=b.out;cases g
      ·rw [if_neg dM];exact E.fin M.out (h3 rfl)
      ·rw [if_pos rfl];refine⟨E.round_,?_⟩;simp at O;omega)
     have U:k+1<=N+1:=oM;go_wp2;go_roundw
     case rel=>exact⟨k+1,ds,g,rfl,gM,U,zjf,zjc,f⟩
     case measure=>simp [intOf];omega
theorem lbs_snoc (v:List Nat) (l:Nat):lbs (v++[l])=lbs v++[((97+l:Nat):Int)]:=by simp [lbs]
theorem zgd (a b:List Int):strOfNums (a++b)=strOfNums a++strOfNums b:=by
 apply ByteArray.ext;simp [strOfNums,ByteArray.data_append]
def wstr (v:List Nat):ByteArray:=strOfNums (lbs v)
theorem wstr_snoc (v:List Nat) (l:Nat):wstr (v++[l])=wstr v++strOfNums [((97+l:Nat):Int)]:=by rw [wstr,lbs_snoc,zgd];rfl
theorem zhr (v:List Nat):(wstr v).size=v.length:=by rw [wstr,strOfNums_size];simp [lbs]
theorem zel (h1:l<6) :
  Calls Tryz.prog 111 #[l] w fun e w'=>e=.returned (.string (strOfNums [((97+l:Nat):Int)]))∧Ext w w':=by
 have b:=zij w;have a:IntKind.u8.wrap (97+(l:Int))=((97+l:Nat):Int):=by rw [IntKind.wrap_u8];omega
 go_enter Tryz.func111,Tryz.ntmps111
 go_wp2;go_ret;exact⟨by first|rfl|(rw [a];rfl)|simp [a],(cW _).alloc _⟩
def RetClo (w:World) (d:Nat->Nat->List Nat) (ds:List Int) (at_:List Nat) (l:Nat) (r:Int) (N:Nat) (e:Ending) (w':World):Prop:=
 ∃ nx:List Nat,zbJ w nx e w'∧Hid (nx.length<=N∧∀ x,x∈nx↔∃ n∈at_,x∈d n l∧ds[x]?=some r)
theorem ziP {lo2 hi2 c2:Nat} {C:Option Addr} {d:Nat->Nat->List Nat}     {r:Int} (h:Lst P3 w lo hi A (mvs d L N))(h':Lst IntP w lo' hi' B ds)(h2:Lst zbo w lo2 hi2 C at_)(hm:at_.length=m)(hat:∀ n∈at_,n<N)(hl:L[k]?=some l)(hds:ds.length=N)(hN:N<=1048576)(hd:∀ x l,x<N->l∈L->∀ y∈d x l,y<N) :
  Calls Tryz.prog 212 #[.slice A N c,.slice B N c',.slice C m c2,k,r] w (RetClo w d ds at_ l r N):=by
 have HM:=za (fun W (hW:Ext w W)=>h.ext P3.ok hW);have HD:=za (fun W (hW:Ext w W)=>h'.ext IntP.ok hW);have HA:=za (fun W (hW:Ext w W)=>h2.ext zbo.ok hW);have Hd:=za (fun x hx=>hd x l hx (cX hl));have ae:=za hat;have Hl:=za hl;have Hm:=za hm;have E:=za hds;have ai:=h2.len;rw [hm] at ai;have ag:k<L.length:=(List.getElem?_eq_some_iff.1 hl).1;have J:∀ n,n<N->(L.map fun l=>d n l)[k]?=some (d n l):=fun n _=>by rw [dQ,hl];rfl
 have ad:=za J;clear h h' h2 hd hat hl hm hds J
 go_enter Tryz.func212,Tryz.ntmps212
 go_upto_region 2 with fail
 have Y:=(cW w).alloc (.cells #[] 3);have s:=World.ownsRow_lit (base:=w.heap.size) (e:=3) (size:=1) w #[] 0 (cY _) lM rfl;generalize hg1:(some ⟨w.heap.size,0,none⟩:Option Addr)=A1 at *;clear hg1;generalize w.alloc _=w0 at *;go_wp2_with fail
 go_loopw [11,12,13,14] (fun v i _ _ wr=>∃ (a:Nat) (f:List Nat),i=.int .i64 a∧a<=m∧Hid (f.Nodup∧∀ x,x∈f↔∃ n∈at_.take a,x∈d n l∧ds[x]?=some r)∧wr.ownsRow w.heap.size 3 1 v f.length (zas f)∧Ext w wr) (fun _ i _ _ _=>m - (intOf i).toNat)
 case atStart=>exact⟨0,[],rfl,dD _,(show Hid _ from ⟨sM,sM⟩),by simpa [zas] using s,Y⟩
 case round =>
  clear s Y;obtain⟨a,f,rfl,ha,b,zjc,hx⟩:=hrel;obtain⟨A0,I,rfl⟩:=zi zjc
  by_cases hlt:a<m
  ·obtain⟨ba,oa,n,rfl,_,_,hn,M⟩:=(HA.out w (cW _)).num (show a<at_.length by rw [Hm.out];exact hlt);have t:=ae.out n (cX hn.out);obtain⟨bm,om,v,aa,rfl,_,_,V,Q,Ar,cr,rfl,X⟩:=(HM.out w (cW _)).get (show n<(mvs d L N).length by rw [zcP];exact t);have u:=za (show aa=L.map fun l=>d n l by
    have g:=V.out;rw [mvs,dQ,gH t] at g;exact (Option.some.inj g).symm)
   have ah:k<aa.length:=by rw [u.out,dO];exact ag
   obtain⟨br,aE,v,p,rfl,_,_,al,S,Ay,cy,rfl,H⟩:=X.get ah;have D:=za (show p=d n l by
    have g:=al.out;rw [u.out,ad.out n t] at g;exact (Option.some.inj g).symm)
   have ao:=H.len;have HY:=za (fun W (hW:Ext w W)=>H.ext zbo.ok hW);have Z:=za (show ∀ y∈p,y<N by rw [D.out];exact Hd.out n t);have aj:=za (show at_.take (a+1)=at_.take a++[n] by rw [dH,hn.out];rfl);have O:=hx.aa M;have R:=hx.aa Q;have T:=hx.aa S;clear H M Q S X;go_wp2_with fail
   clear O R T
   go_loopw [11,14] (fun v i wr2=>∃ (j:Nat) (f:List Nat),i=.int .i64 j∧j<=p.length∧Hid (f.Nodup∧∀ x,x∈f↔(∃ n∈at_.take a,x∈d n l∧ds[x]?=some r)∨(x∈p.take j∧ds[x]?=some r))∧wr2.ownsRow w.heap.size 3 1 v f.length (zas f)∧Ext w wr2) (fun _ i _=>p.length - (intOf i).toNat)
   case atStart=>exact⟨0,f,rfl,dD _,(show Hid _ from ⟨b.out.1,fun x=>by rw [b.out.2 x];simp⟩),zjc,hx⟩
   case round =>
    clear zjc hx b;obtain⟨j,f,rfl,hj,b,zjc,hx⟩:=hrel;obtain⟨A0,I,rfl⟩:=zi zjc
    by_cases hlj:j<p.length
    ·obtain⟨aA,oy,y,rfl,_,_,hy,aC⟩:=(HY.out _ hx).num hlj;have ak:=Z.out y (cX hy.out);obtain⟨bd,od,v,rfl,_,_,hv,aB⟩:=(HD.out _ hx).int (show y<ds.length by rw [E.out];exact ak);have G:=za (show p.take (j+1)=p.take j++[y] by rw [dH,hy.out];rfl)
     by_cases hvr:v=r
     ·have af:=za (show ds[y]?=some r by rw [hv.out,hvr]);subst hvr;have q:=Lst.ah zjc;have HI:=za (spec_l4In (c:=I) (x:=y) q rfl);have aq:f.length<=N:=zeD b.out.1 fun x hx=>by
       rcases (b.out.2 x).1 hx with ⟨_,_,_,g⟩|⟨_,g⟩<;>· have:=(List.getElem?_eq_some_iff.1 g).1;rw [E.out] at this;exact this
      by_cases hin:y∈f
      ·have F:=za (show decide (y∈f)=true by simp [hin]);have o:=za (show f.Nodup∧∀ x,x∈f↔(∃ n∈at_.take a,x∈d n l∧ds[x]?=some v)∨(x∈p.take (j+1)∧ds[x]?=some v) from ⟨b.out.1,fun x=>by
        rw [b.out.2 x,G.out,gR,e8];constructor
        ·rintro (h|⟨h,h'⟩)
         ·exact Or.inl h
         ·exact Or.inr ⟨Or.inl h,h'⟩
        ·rintro (h|⟨h|h,h'⟩)
         ·exact Or.inl h
         ·exact Or.inr ⟨h,h'⟩
         ·subst h;exact (b.out.2 x).1 hin⟩)
       clear q hin;go_wp2_with (go_at_call 245;with_reducible refine HI.out.mono ?_;rw [F.out];rintro e w4 ⟨rfl,rfl⟩)
       go_roundw
       case rel=>exact⟨j+1,f,gM,oM,o,zjc,hx⟩
       case measure=>simp [intOf];omega
      ·have F:=za (show decide (y∈f)=false by simp [hin]);have o:=za (show (f++[y]).Nodup∧∀ x,x∈f++[y]↔(∃ n∈at_.take a,x∈d n l∧ds[x]?=some v)∨(x∈p.take (j+1)∧ds[x]?=some v) from ⟨List.nodup_append.2 ⟨b.out.1,sM,fun x hx z hz e=>by simp at hz;subst hz;subst e;exact hin hx⟩,fun x=>by
        rw [gR,e8,b.out.2 x,G.out,gR,e8];constructor
        ·rintro ((h|⟨h,h'⟩)|h)
         ·exact Or.inl h
         ·exact Or.inr ⟨Or.inl h,h'⟩
         ·subst h;exact Or.inr ⟨Or.inr rfl,af.out⟩
        ·rintro (h|⟨h|h,h'⟩)
         ·exact Or.inl (Or.inl h)
         ·exact Or.inl (Or.inr ⟨h,h'⟩)
         ·exact Or.inr h⟩)
       clear q hin;go_wp2_with (first
        |(go_at_call 245;with_reducible refine HI.out.mono ?_;rw [F.out];rintro e w4 ⟨rfl,rfl⟩)
        |(at_builtin;refine zL w wr rfl _ _ _ rfl 3 _ 1 8 Tryz.underlying74 zae rfl dM (.slice A0 f.length I) _ _ _ _ rfl rfl hx zjc rfl (zbq _) lM oM ?_;intro v' w5 hext5 zjo hg5 hat5))
       go_roundw
       case rel=>exact⟨j+1,f++[y],gM,oM,o,by rw [dL,zdC];exact zjo,hext5⟩
       case measure=>simp [intOf];omega
     ·have aD:(v==r)=false:=by simp;omega
      have o:=za (show f.Nodup∧∀ x,x∈f↔(∃ n∈at_.take a,x∈d n l∧ds[x]?=some r)∨(x∈p.take (j+1)∧ds[x]?=some r) from ⟨b.out.1,fun x=>by
       rw [b.out.2 x,G.out,gR,e8];constructor
       ·rintro (h|⟨h,h'⟩)
        ·exact Or.inl h
        ·exact Or.inr ⟨Or.inl h,h'⟩
       ·rintro (h|⟨h|h,h'⟩)
        ·exact Or.inl h
        ·exact Or.inr ⟨h,h'⟩
        ·subst h;rw [hv.out] at h';exact absurd (Option.some.inj h') hvr⟩)
      clear hvr;go_wp2_with fail
      go_roundw
      case rel=>exact⟨j+1,f,gM,oM,o,zjc,hx⟩
      case measure=>simp [intOf];omega
    ·obtain rfl:j=p.length:=oM;have o:=za (show f.Nodup∧∀ x,x∈f↔∃ n∈at_.take (a+1),x∈d n l∧ds[x]?=some r from ⟨b.out.1,fun x=>by
      rw [b.out.2 x,eC,D.out,aj.out];constructor
      ·rintro (⟨z,g,h2⟩|⟨g,h2⟩)
       ·exact⟨z,by simp [g],h2⟩
       ·exact⟨n,sM,g,h2⟩
      ·rintro ⟨z,g,h2⟩;rcases List.mem_append.1 g with g|g
       ·exact Or.inl ⟨z,g,h2⟩
       ·rw [List.mem_singleton.1 g] at h2;exact Or.inr h2⟩)
     go_wp2_with fail
     go_roundw
     case rel=>exact⟨a+1,f,gM,oM,o,zjc,hx⟩
     case measure=>simp [intOf];omega
  ·obtain rfl:a=m:=oM;have U:=za (show RetClo w d ds at_ l r N (.returned (.slice A0 f.length I)) wr from by
    refine⟨f,⟨A0,I,rfl,zjc,hx⟩,(show Hid _ from ⟨zeD b.out.1 fun x hx=>?_,fun x=>?_⟩)⟩
    ·obtain⟨_,_,_,g⟩:=(b.out.2 x).1 hx;have:=(List.getElem?_eq_some_iff.1 g).1;rw [E.out] at this;exact this
    ·rw [b.out.2 x,dG (by rw [Hm.out];exact cY _)])
   clear zjc;go_wp2;go_ret;exact U.out
def wl (s:ByteArray):List Nat:=s.data.toList.map fun b=>b.toNat - 97
theorem zeq (s:ByteArray):(wl s).length=s.size:=by simp [wl]
theorem zep (hk:k<s.size):(wl s)[k]?=some (s[k].toNat - 97):=by
 unfold wl;rw [dQ,zbs s k hk];rfl
theorem zaQ (h:zaK s=true) (hk:k<s.size):97<=s[k].toNat∧s[k].toNat<=102:=by
 unfold zaK at h;simp only [dF,eG] at h;have:=h.2 s[k] (cX (zbs s k hk));simp only [zci,decide_eq_true_eq] at this;omega
theorem zaR (h:zaK s=true):s.size<=50000:=by
 unfold zaK at h;simp only [dF,decide_eq_true_eq] at h;exact h.1
theorem wl_lt (h:zaK s=true):∀ l∈wl s,l<6:=by
 intro l hl;obtain⟨k,b⟩:=dX hl;have a:=(List.getElem?_eq_some_iff.1 b).1;rw [zeq] at a;rw [zep a] at b;have:=zaQ h a;have:=Option.some.inj b;omega
def alB (ls:List Nat):Nat:=ls.foldl (fun u l=>u|||2 ^ l) 0
theorem alB_snoc (ls:List Nat) (l:Nat):alB (ls++[l])=alB ls|||2 ^ l:=by simp [alB]
theorem alB_bit (ls:List Nat) (k:Nat):(alB ls).testBit k=true↔k∈ls:=by
 have a:∀ (ls:List Nat) (u:Nat),(ls.foldl (fun u l=>u|||2 ^ l) u).testBit k=true↔u.testBit k=true∨k∈ls:=by
  intro ls
  induction ls with
  |nil=>intro u;simp
  |cons l r ih =>
   intro u;rw [iO,ih,Nat.testBit_or,Nat.testBit_two_pow,gZ,decide_eq_true_eq,List.mem_cons];constructor
   ·rintro ((h|h)|h)
    ·exact Or.inl h
    ·exact Or.inr (Or.inl h.symm)
    ·exact Or.inr (Or.inr h)
   ·rintro (h|h|h)
    ·exact Or.inl (Or.inl h)
    ·exact Or.inl (Or.inr h.symm)
    ·exact Or.inr h
 have:=a ls 0;simpa [alB] using this
theorem alB_lt (h:∀ l∈ls,l<6):alB ls<64:=Nat.lt_pow_two_of_testBit (n:=6) _ fun k hk=>by
 rw [eZ]
 intro hb
 have:=h k ((alB_bit ls k).1 hb)
 omega
def inB (s:ByteArray) (a:Nat):Bool:=decide (s.size<=50000)&&zdD s a
theorem zaW (h:inB s a=true):zaK s=true:=by
 unfold inB at h;simp only [dF,decide_eq_true_eq] at h;unfold zaK;simp only [dF,decide_eq_true_eq];refine⟨h.1,?_⟩;rw [eG];intro b hb;have c:=h.2;unfold zdD at c;rw [eG] at c;have d:=c b hb;unfold hasB ltr at d;simp only [dF,decide_eq_true_eq] at d;unfold zci;rw [decide_eq_true_eq];have f:=d.1
 split at f<;>omega
theorem inB_iff :inB s a=true↔zaK s=true∧alB (wl s)&&&a=alB (wl s):=by
 constructor
 ·intro h;have f:=zaW h;refine⟨f,iF fun k=>?_⟩;rw [Nat.testBit_and];cases hk:(alB (wl s)).testBit k
  ·rfl
  ·rw [Bool.true_and];have g:=(alB_bit _ k).1 hk;obtain⟨i,d⟩:=dX g;have c:=(List.getElem?_eq_some_iff.1 d).1;rw [zeq] at c;rw [zep c] at d;have j:=zaQ f c;have e:=Option.some.inj d;unfold inB zdD at h;simp only [dF,eG] at h;have:=h.2 s[i] (cX (zbs s i c));unfold hasB ltr at this;rw [if_neg oM] at this;simp only [dF] at this;rw [← e,← this.2]
   congr 1
   omega
 ·rintro ⟨f,h⟩;unfold inB;simp only [dF,decide_eq_true_eq];refine⟨zaR f,?_⟩;unfold zdD;rw [eG];intro b j;obtain⟨i,d⟩:=dX j;have c:i<s.size:=by have:=(List.getElem?_eq_some_iff.1 d).1;simpa using this
  rw [zbs s i c] at d;obtain rfl:=Option.some.inj d;have l:=zaQ f c;unfold hasB ltr;rw [if_neg oM];have g:(alB (wl s)).testBit (s[i].toNat - 97)=true:=(alB_bit _ _).2 (cX (zep c));rw [← h,Nat.testBit_and,dF] at g;simp only [dF,decide_eq_true_eq];refine⟨oM,?_⟩;rw [show ((s[i].toNat:Int) - 97).toNat=s[i].toNat - 97 by omega];exact g.2
theorem zdF (hs:s.size<=9223372036854775807) :
  Calls Tryz.prog 170 #[s] w fun e w'=>e=.returned (.tuple #[.int .i64 (if zaK s=true then alB (wl s) else 0:Nat),.bool (zaK s)])∧w=w':=by
 cases hw:zaK s
 ·have f:=za hw;clear hw
  go_enter Tryz.func170,Tryz.ntmps170
  go_wp2_with (go_at_call 29;refine (zbb s _ hs).mono ?_;rw [f.out];rintro e w' ⟨rfl,rfl⟩)
  go_ret2;exact⟨rfl,rfl⟩
 ·have q:=zaR hw;have p:=za (fun k o=>zaQ hw (k:=k) o);have t:=za (wl_lt hw);have f:=za hw;clear hw
  go_enter Tryz.func170,Tryz.ntmps170
  go_wp2_with (go_at_call 29;refine (zbb s _ hs).mono ?_;rw [f.out];rintro e w' ⟨rfl,rfl⟩)
  go_loop [4,5] (fun v i=>∃ k u:Nat,k<=s.size∧i=.int .i64 k∧v=.int .i64 u∧u<64∧Hid (u=alB ((wl s).take k))) (fun _ i=>s.size - (intOf i).toNat)
  case atStart=>exact⟨0,0,dD _,rfl,rfl,oM,rfl⟩
  case round =>
   obtain⟨k,u,o,rfl,rfl,r,d⟩:=hrel
   by_cases hlt:k<s.size
   ·have g:=p.out k hlt;obtain⟨l,h⟩:∃ l:Nat,Hid ((s[k].toNat:Int) - 97=l):=⟨s[k].toNat - 97,by unfold Hid;omega⟩;have j:l<6:=oH h.out;have m:=za (show alB ((wl s).take (k+1))=u|||2 ^ l by
     rw [dH,zep hlt,eD,alB_snoc,← d.out]
     congr 2
     have:=h.out;omega)
    have c:=za (show bits .or .i64 (u:Nat) ((2:Int) ^ l)=((u|||2 ^ l:Nat):Int) by
     have:=zbz (a:=u) tM (Sm.bit (n:=l) oM);rw [show (((2:Nat) ^ l:Nat):Int)=(2:Int) ^ l by simp] at this;exact this)
    have b:u|||2 ^ l<64:=eJ (n:=6) r (Nat.pow_lt_pow_right oM j)
    have x:=c.out;clear g;go_wp2_with (first
     |(go_at_call 62;refine (zbk s k hlt _).mono ?_;rw [h.out];rintro e w' ⟨rfl,rfl⟩)
     |(go_at_call 203;refine (zfB l oM _).mono ?_;rintro e w' ⟨rfl,rfl⟩))
    go_round
    case rel=>exact⟨k+1,u|||2 ^ l,oM,gM,by first|rfl|rw [c.out],b,m.symm⟩
    case measure=>simp [intOf];omega
   ·obtain rfl:k=s.size:=oM;have zjf:=za (show u=alB (wl s) by rw [d.out,dG (by rw [zeq];exact cY _)]);go_wp2;go_ret2;exact⟨by rw [zjf.out];rfl,rfl⟩
theorem zad (hs:s.size<=9223372036854775807)(ha:a<=63) :
  Calls Tryz.prog 140 #[s,a] w fun e w'=>e=.returned (.bool (inB s a))∧w=w':=by
 have d:=za (show (decide ((0:Int)<=a∧(a:Int)<=63))=true by simp;omega);cases hw:zaK s
 ·have g:=za (show inB s a=false by
   rw [eZ];intro h;rw [zaW h] at hw;cases hw)
  have c:=za hw;clear hw
  go_enter Tryz.func140,Tryz.ntmps140
  go_wp2_with (go_at_call 170;refine (zdF hs).mono ?_;rw [c.out];rintro e w' ⟨rfl,rfl⟩)
  go_ret;exact⟨zj (by rw [g.out]),rfl⟩
 ·obtain⟨u,i⟩:∃ u,Hid (alB (wl s)=u):=⟨_,rfl⟩;have j:u<64:=by rw [← i.out];exact alB_lt (wl_lt hw)
  have f:=za (zcn (a:=u) (b:=a) tM tM);have k:=f.out;have g:=za (show inB s a=(((u&&&a:Nat):Int)==(u:Int)) by
   rw [gY,inB_iff,i.out,beq_iff_eq];constructor
   ·rintro ⟨_,h⟩;rw [h]
   ·intro h;exact⟨hw,oM⟩)
  have c:=za hw;clear hw
  go_enter Tryz.func140,Tryz.ntmps140
  go_wp2_with (first
   |(go_at_call 170;refine (zdF hs).mono ?_;rw [c.out,if_pos rfl,i.out];rintro e w' ⟨rfl,rfl⟩)
   |(go_at_call 59;refine (zS _ _).mono ?_;rw [d.out];rintro e w' ⟨rfl,rfl⟩))
  go_ret;exact⟨zj (by rw [g.out]),rfl⟩
def bnum (bs:List UInt8):List Int:=bs.map fun b=>(b.toNat:Int)
def bcl (bs:List UInt8):List Value:=(bnum bs).map (Value.int .u8)
theorem bcl_length (bs:List UInt8):(bcl bs).length=bs.length:=by simp [bcl,bnum]
def zeZ (a:Nat) (bs:List UInt8):List UInt8:=bs.filter fun b=>hasB a (ltr b.toNat)
def zbj (s:ByteArray) (a:Nat):ByteArray:=strOfNums (bnum (zeZ a s.data.toList))
theorem zhP (hk:k<s.size):zeZ a (s.data.toList.take (k+1))=zeZ a (s.data.toList.take k)++if hasB a (ltr s[k].toNat)=true then [s[k]] else []:=by
 rw [dH,zbs s k hk,eD];unfold zeZ;rw [List.filter_append]
 congr 1
 cases h:hasB a (ltr s[k].toNat)<;>simp [h]
theorem zgM (s:ByteArray) (a k:Nat):(zeZ a (s.data.toList.take k)).length<=s.size:=by
 refine dJ (List.length_filter_le _ _) ?_;rw [eO];have:s.data.toList.length=s.size:=sM;omega
theorem conv_own {bs:List UInt8}(h:W.ownsRow base 5 1 (.slice A n cap) n (bcl bs)) :
  (convert 22 9 (.slice A n cap)).run Tryz.prog W=.ok (.string (strOfNums (bnum bs))) W:=by
 have d:bs.length=n:=by have:=zfv h;rw [bcl_length] at this;omega
 rcases h.2 with ⟨a,j⟩|⟨g,c,f,a,_⟩
 ·injection a with a h3 h4
  subst a;subst h3;subst h4;obtain rfl:bs=[]:=dU d;exact run_convert_bytes_nil (P:=Tryz.prog) W 22 5 u8_row u8_und _ _ _ zhn
 ·injection a with a
  subst a;refine run_convert_bytes_arg (P:=Tryz.prog) W 22 5 u8_row u8_und g 0 n cap (bnum bs) (by simp [bnum,d]) (fun i hi=>?_) _ zhn;rw [Nat.zero_add,h.cellAt i oM];unfold bcl;rw [dQ];have b:i<(bnum bs).length:=by simp [bnum];omega
  rw [dC b];simp [List.getD,dC b]
theorem own_u8_lit (w:World):(w.alloc (.cells #[] 5)).ownsRow w.heap.size 5 1 (.slice (some w.heap.size) 0 0) 0 (bcl []):=World.ownsRow_lit w #[] 0 (cY _) lM rfl
theorem yQ06a1 {P:Prop}(h:P:=by
 obtain rfl:k=s.size:=oM;have zjf:=za (show strOfNums (bnum bs)=zbj s a by rw [hbs.out,List.take_of_length_le sM];rfl);obtain⟨A5,c5,rfl⟩:=zi zjc;have hcv:=conv_own zjc;clear zjc;go_wp2_with (simp only [hcv])
 go_ret;exact⟨by rw [zjf.out];rfl,hx⟩
 ):P:=h
theorem yQ06a2 {P:Prop}(h:P:=by
 go_roundw
 case rel=>exact⟨k+1,bs++[s[k]],oM,gM,by rw [List.length_append];simpa [bcl,bnum] using zjo,hst2,by rw [List.length_append];exact hl3,hext5⟩
 case measure=>simp [intOf];omega
 ):P:=h
theorem zbV (hw:zaK s=true)(ha:a<=63) :
  Calls Tryz.prog 142 #[s,a] w fun e w'=>e=.returned (.string (zbj s a))∧Ext w w':=by
 have m:=za (show (decide ((0:Int)<=a∧(a:Int)<=63))=true by simp;omega);have x:=zaR hw;have q:=za (fun k p=>zaQ hw (k:=k) p);have r:=za hw;clear hw
 go_enter Tryz.func142,Tryz.ntmps142
 go_upto_region 3 with (first
  |(go_at_call 29;refine (zbb s _ oM).mono ?_;rw [r.out];rintro e w' ⟨rfl,rfl⟩)
  |(go_at_call 59;refine (zS _ _).mono ?_;rw [m.out];rintro e w' ⟨rfl,rfl⟩))
 go_upto_region 4 with fail
 have c:=own_u8_lit w;have j:=(cW w).alloc (.cells #[] 5);generalize hA0:(some ⟨w.heap.size,0,none⟩:Option Addr)=y at *;clear hA0;generalize w.alloc _=z at *;go_wp2_with fail
 go_loopw [5,6] (fun v i wr=>∃ (k:Nat) (bs:List UInt8),k<=s.size∧i=.int .i64 k∧wr.ownsRow w.heap.size 5 1 v bs.length (bcl bs)∧Hid (bs=zeZ a (s.data.toList.take k))∧bs.length<=50000∧Ext w wr) (fun _ i _=>s.size - (intOf i).toNat)
 case atStart=>exact⟨0,[],dD _,rfl,c,rfl,sM,j⟩
 case round =>
  clear c j;obtain⟨k,bs,p,rfl,zjc,hbs,n,hx⟩:=hrel
  by_cases hlt:k<s.size
  ·have t:=q.out k hlt;obtain⟨l,g⟩:∃ l:Nat,Hid ((s[k].toNat:Int) - 97=l):=⟨s[k].toNat - 97,by unfold Hid;omega⟩;have f:=za (show hasB a (ltr s[k].toNat)=a.testBit l by
    unfold hasB ltr;have:=g.out;rw [if_neg oM,this]
    simp)
   have h:=za (zhP (a:=a) hlt);have u:=zgM s a (k+1);have d:Sm a:=tM;have o:=za (show s.data.toList[k]?=some s[k] from zbs s k hlt);cases hb:a.testBit l
   ·have b:=za hb;have hst2:=za (show bs=zeZ a (s.data.toList.take (k+1)) by rw [h.out,f.out,b.out,hbs.out];simp);clear hb;go_wp2_with (first
     |(go_at_call 62;refine (zbk s k hlt _).mono ?_;rw [g.out];rintro e w' ⟨rfl,rfl⟩)
     |(go_at_call 112;refine (zao a l d _ (oH g.out)).mono ?_;rw [b.out];rintro e w' ⟨rfl,rfl⟩))
    go_roundw
    case rel=>exact⟨k+1,bs,oM,gM,zjc,hst2,n,hx⟩
    case measure=>simp [intOf];omega
   ·have b:=za hb;have hst2:=za (show bs++[s[k]]=zeZ a (s.data.toList.take (k+1)) by rw [h.out,f.out,b.out,hbs.out];simp);have hl3:(bs++[s[k]]).length<=50000:=by rw [hst2.out];omega
    rw [dL,eA] at hl3;clear hb;go_wp2_with (first
     |(go_at_call 62;refine (zbk s k hlt _).mono ?_;rw [g.out];rintro e w' ⟨rfl,rfl⟩)
     |(go_at_call 112;refine (zao a l d _ (oH g.out)).mono ?_;rw [b.out];rintro e w' ⟨rfl,rfl⟩)
     |(at_builtin;refine zL w wr rfl _ _ _ rfl 5 _ 1 1 Tryz.underlying22 ziu rfl dM u5 _ _ _ _ rfl rfl hx zjc rfl (zgg _) lM oM ?_;intro v' w5 hext5 zjo hg5 hat5))
    exact yQ06a2
  ·exact yQ06a1
theorem zeY (hw:zaK s=true)(ha:a<=63) :
  Calls Tryz.prog 89 #[s,a] w fun e w'=>e=.returned (.string (zbj s a))∧Ext w w':=by
 have m:=zaR hw;have h:=za (fun k g=>zaQ hw (k:=k) g);clear hw;have c:Sm a:=tM
 go_enter Tryz.func89,Tryz.ntmps89
 go_wp2_with fail
 go_loopw [5,6,9] (fun v _ i wr=>∃ (k:Nat) (bs:List UInt8),k<=s.size∧i=.int .i64 k∧wr.ownsRow w.heap.size 5 1 v bs.length (bcl bs)∧Hid (bs=zeZ a (s.data.toList.take k))∧bs.length<=50000∧Ext w wr) (fun _ _ i _=>s.size - (intOf i).toNat)
 case atStart=>exact⟨0,[],dD _,rfl,World.ownsRow_nil _ _ _ _,rfl,sM,cW _⟩
 case round =>
  obtain⟨k,bs,g,rfl,zjc,hbs,f,hx⟩:=hrel
  by_cases hlt:k<s.size
  ·have j:=h.out k hlt;have d:=za (zhP (a:=a) hlt);have l:=zgM s a (k+1);cases hb:hasB a (ltr s[k].toNat)
   ·have b:=za hb;have hst2:=za (show bs=zeZ a (s.data.toList.take (k+1)) by rw [d.out,b.out,hbs.out];simp);clear hb;go_wp2_with (first
     |(go_at_call 110;refine (zaI s k hlt _).mono ?_;rintro e w' ⟨rfl,rfl⟩)
     |(go_at_call 84;refine (zbY a _ c _).mono ?_;rw [b.out];rintro e w' ⟨rfl,rfl⟩))
    go_roundw
    case rel=>exact⟨k+1,bs,oM,gM,zjc,hst2,f,hx⟩
    case measure=>simp [intOf];omega
   ·have b:=za hb;have hst2:=za (show bs++[s[k]]=zeZ a (s.data.toList.take (k+1)) by rw [d.out,b.out,hbs.out];simp);have hl3:(bs++[s[k]]).length<=50000:=by rw [hst2.out];omega
    rw [dL,eA] at hl3;clear hb;go_wp2_with (first
     |(go_at_call 110;refine (zaI s k hlt _).mono ?_;rintro e w' ⟨rfl,rfl⟩)
     |(go_at_call 84;refine (zbY a _ c _).mono ?_;rw [b.out];rintro e w' ⟨rfl,rfl⟩)
     |(at_builtin;refine zL w wr rfl _ _ _ rfl 5 _ 1 1 Tryz.underlying22 ziu rfl dM u5 _ _ _ _ rfl rfl hx zjc rfl (zgg _) lM oM ?_;intro v' w5 hext5 zjo hg5 hat5))
    exact yQ06a2
  ·exact yQ06a1
theorem areParts_1 {s:Sys} (h:zR w lo hi A n s) :
  Calls Tryz.prog 134 #[.agg #[s.al,s.st,.slice A n c]] w fun e w'=>e=.returned (.bool (!zl s))∧Ext w w':=by
 go_enter Tryz.func134,Tryz.ntmps134
 go_wp2_with (go_at_call 41;refine (zaq (h.ext ?_)).mono ?_;exact (cW _).alloc _;rintro e w' ⟨rfl,hx⟩)
 go_ret;exact⟨rfl,((cW _).alloc _).trans hx⟩
theorem zgJ (h:zet w lo hi A n ss) :
  Calls Tryz.prog 164 #[.slice A n c,.func (.func 134) #[] #[]] w fun e w'=>∃ r:Int,e=.returned (.int .i64 r)∧decide (0<=r)=ss.any (fun s=>!zl s) ∧ -1<=r∧Ext w w':=by
 have z:=h.len;have m:=za h.1
 go_enter Tryz.func164,Tryz.ntmps164
 go_wp2
 go_loopw [8] (fun i wr=>∃ k:Nat,k<=n∧i=.int .i64 k∧Hid ((ss.take k).any (fun s=>!zl s)=false)∧Ext w wr) (fun i _=>n - (intOf i).toNat)
 case atStart=>exact⟨0,dD _,rfl,rfl,cW _⟩
 case round =>
  obtain⟨k,y,rfl,f,a⟩:=hrel
  by_cases hlt:k<n
  ·obtain⟨b,o,s,B,q,d,rfl,t,p,l,u,v,x,j⟩:=(h.ext a).sys hlt;cases hb:zl s
   all_goals
    have g:=za hb;clear hb;go_wp2_with (go_at_call 134;refine (areParts_1 j).mono ?_;rw [g.out];rintro e w' ⟨rfl,hx⟩)
   ·go_ret;exact⟨k,rfl,by rw [List.any_eq_true.2 ⟨s,cX l.out,by rw [g.out];rfl⟩];simp,oM,a.trans hx⟩
   ·go_roundw
    case rel=>exact⟨k+1,oM,gM,by unfold Hid;rw [dH,l.out,List.any_append,f.out];simp [g.out],a.trans hx⟩
    case measure=>simp [intOf];omega
  ·obtain rfl:k=n:=oM;go_wp2;go_ret;have:=f.out;rw [m.out,eC] at this;exact⟨-1,rfl,by rw [this];decide,oM,a⟩
theorem zeQ (h:zet w lo hi A n ss) :
  Calls Tryz.prog 133 #[.slice A n c,.func (.func 134) #[] #[]] w fun e w'=>e=.returned (.bool (ss.any (fun s=>!zl s)))∧Ext w w':=by
 go_enter Tryz.func133,Tryz.ntmps133
 cases hb:ss.any (fun s=>!zl s)
 all_goals
  have b:=za hb;clear hb;go_wp2_with (go_at_call 164;refine (zgJ h).mono ?_;rw [b.out];rintro e w' ⟨r,rfl,d,f,hx⟩)
  go_ret;exact⟨zj (by have a:=d;simp at a;simp<;>omega),hx⟩
def zE (ss:List Sys):Bool:=decide (1<=ss.length)&&(decide (ss.length<=3)&&ss.all zl)
theorem zaC (h:zet w lo hi A n ss) :
  Calls Tryz.prog 86 #[.slice A n c] w fun e w'=>e=.returned (.bool (zE ss))∧Ext w w':=by
 have f:=h.len;have a:=za h.1;have b:ss.any (fun s=>!zl s)=!ss.all zl:=by rw [gY];simp
 have d:=za b;clear b
 by_cases h1:1<=n
 ·by_cases h3:n<=3
  ·go_enter Tryz.func86,Tryz.ntmps86
   go_wp2_with (go_at_call 133;refine (zeQ h).mono ?_;rw [d.out];rintro e w' ⟨rfl,hx⟩)
   go_ret;exact⟨zj (by have:=a.out;unfold zE;rw [decide_eq_true oM,decide_eq_true oM];simp),hx⟩
  ·go_enter Tryz.func86,Tryz.ntmps86
   go_wp2;go_ret;exact⟨zj (by have:=a.out;unfold zE;rw [decide_eq_false (by omega:¬ ss.length<=3)];simp),cW _⟩
 ·go_enter Tryz.func86,Tryz.ntmps86
  go_wp2;go_ret;exact⟨zj (by have:=a.out;unfold zE;rw [decide_eq_false (by omega:¬ 1<=ss.length)];simp),cW _⟩
def zV (ss:List Sys):Nat:=ss.foldl (fun a s=>a|||s.al.toNat) 0
theorem zbW {s:Sys}(h:ss[k]?=some s):zV (ss.take (k+1))=zV (ss.take k)|||s.al.toNat:=by
 rw [dH,h];simp [zV]
theorem zQ {s:Sys}(h:zl s=true):0<=s.al∧s.al<=63:=by
 simp only [zl,dF,decide_eq_true_eq] at h;exact h.1
def zaG (ss:List Sys):Int:=if zE ss then (zV ss:Int) else -1
theorem zab (h:zet w lo hi A n ss) :
  Calls Tryz.prog 130 #[.slice A n c] w fun e w'=>e=.returned (.int .i64 (zaG ss))∧Ext w w':=by
 have R:=h.len;have r:=za h.1
 by_cases p:n<1
 ·go_enter Tryz.func130,Tryz.ntmps130
  go_wp2;go_ret;exact⟨zD (by have:=r.out;unfold zaG zE;rw [decide_eq_false oM];simp),cW _⟩
 by_cases h3:n>3
 ·go_enter Tryz.func130,Tryz.ntmps130
  go_wp2;go_ret;exact⟨zD (by have:=r.out;unfold zaG zE;rw [decide_eq_false (by omega:¬ ss.length<=3)];simp),cW _⟩
 go_enter Tryz.func130,Tryz.ntmps130
 go_wp2
 go_loopw [3,4] (fun v i wr=>∃ k:Nat,k<=n∧i=.int .i64 k∧∃ u:Nat,v=.int .i64 u∧u<=63∧Hid (u=zV (ss.take k))∧Hid ((ss.take k).all zl=true)∧Ext w wr) (fun _ i _=>n - (intOf i).toNat)
 case atStart=>exact⟨0,dD _,rfl,0,rfl,oM,rfl,rfl,cW _⟩
 case round =>
  obtain⟨k,Q,rfl,u,rfl,S,m,g,f⟩:=hrel
  by_cases hlt:k<n
  ·obtain⟨b,o,s,B,q,d,rfl,L,J,t,F,M,O,l⟩:=(h.ext f).sys hlt;cases hb:zl s
   ·have j:=za hb;clear hb;go_wp2_with (go_at_call 94;refine (zah l).mono ?_;rw [j.out];rintro e w' ⟨rfl,hx⟩)
    go_ret;exact⟨zD (by unfold zaG;rw [if_neg];unfold zE;simp;intro _ _;exact⟨s,cX t.out,j.out⟩),f.trans hx⟩
   ·obtain⟨H,I⟩:=zQ hb;have j:=za hb;clear hb;have E:=za (zbW t.out);have D:=za (zbz (a:=u) (b:=s.al.toNat) tM tM);have C:=za (show ((s.al.toNat:Nat):Int)=s.al by omega);go_wp2_with (go_at_call 94;refine (zah l).mono ?_;rw [j.out];rintro e w' ⟨rfl,hx⟩;have G:=hx.aa F)
    go_roundw
    case rel=>exact⟨k+1,oM,gM,u|||s.al.toNat,by have:=D.out;rw [C.out] at this;rw [← this],by have:=eJ (n:=6) (x:=u) (y:=s.al.toNat) oM oM;omega,by unfold Hid;rw [E.out,m.out],by unfold Hid;rw [dH,t.out,List.all_append,g.out];simp [j.out],f.trans hx⟩
    case measure=>simp [intOf];omega
  ·obtain rfl:k=n:=oM;go_wp2;go_ret;exact⟨zD (by have:=r.out;have p:=m.out;have z:=g.out;rw [this,eC] at p z;unfold zaG zE;rw [decide_eq_true oM,decide_eq_true oM,z,p];rfl),f⟩
theorem zbc (h:zet w lo hi A n ss) :
  Calls Tryz.prog 87 #[.slice A n c] w fun e w'=>e=.returned (.int .i64 (zaG ss))∧Ext w w':=by
 have O:=h.len;have G:=za h.1;have m:=za (fun W (hW:Ext w W)=>h.ext hW);clear h;cases hp:zE ss
 ·have p:=za hp;have z:=za (show zaG ss = -1 by unfold zaG;rw [hp];rfl);clear hp
  go_enter Tryz.func87,Tryz.ntmps87
  go_wp2_with (go_at_call 86;refine (zaC (m.out _ (cW _))).mono ?_;rw [p.out];rintro e I ⟨rfl,hx⟩)
  go_ret;exact⟨zD (by rw [z.out]),hx⟩
 ·have p:=za hp;have z:=za (show zaG ss=(zV ss:Int) by unfold zaG;rw [hp];rfl);have H:=za (show ∀ s∈ss,zl s=true by
   unfold zE at hp;simp only [dF,eG] at hp;exact hp.2.2)
  clear hp
  go_enter Tryz.func87,Tryz.ntmps87
  go_wp2_with (go_at_call 86;refine (zaC (m.out _ (cW _))).mono ?_;rw [p.out];rintro e I ⟨rfl,hx⟩)
  go_loopw [3,5,11] (fun v _ i wr=>∃ k u:Nat,k<=n∧i=.int .i64 k∧v=.int .i64 u∧u<=63∧Hid (u=zV (ss.take k))∧Ext w wr) (fun _ _ i _=>n - (intOf i).toNat)
  case atStart=>exact⟨0,0,dD _,rfl,rfl,oM,rfl,hx⟩
  case round =>
   clear hx;obtain⟨k,u,M,rfl,rfl,R,g,hx⟩:=hrel
   by_cases hlt:k<n
   ·obtain⟨b,o,s,B,q,d,rfl,_,_,D,F,J,L,_⟩:=(m.out wr hx).sys hlt;obtain⟨r,t⟩:=zQ (H.out s (cX D.out));obtain⟨f,j⟩:∃ f:Nat,Hid (s.al=f):=⟨s.al.toNat,by unfold Hid;omega⟩;rw [j.out] at F r t;have E:=za (show zV (ss.take (k+1))=u|||f by rw [zbW D.out,j.out,eM,g.out]);have C:=za (zbz (a:=u) (b:=f) tM tM);have l:u|||f<=63:=by have:=eJ (n:=6) (x:=u) (y:=f) oM oM;omega
    have Q:=C.out;clear g;go_wp2_with fail
    go_roundw
    case rel=>exact⟨k+1,u|||f,oM,gM,by first|rfl|rw [C.out],l,E.out.symm,by first|exact hx.alloc _|exact (hx.alloc _).drew⟩
    case measure=>simp [intOf];omega
   ·obtain rfl:n=k:=oM;have zjf:=za (show zaG ss=(u:Int) by rw [z.out,g.out,dG (oH G.out)]);go_wp2;go_ret;exact⟨zD (by rw [zjf.out]),hx⟩
def zgr (es:List Edg) (x:Nat) (ls:List Nat):Nat:=ls.foldl (fun m (l:Nat)=>zbI es m (l:Int)) x
theorem zgY (es:List Edg) (x:Nat) (ls:List Nat) (l:Nat):zgr es x (ls++[l])=zbI es (zgr es x ls) (l:Int):=by simp [zgr]
theorem runB_zero (es:List Edg) (ls:List Nat):zgr es 0 ls=0:=by
 induction ls with
 |nil=>rfl
 |cons l r ih=>rw [zgr,iO,zia];exact ih
theorem runB_end (h:zgr es x (ls.take k)=0):zgr es x ls=0:=by
 have e:ls=ls.take k++ls.drop k:=(List.take_append_drop k ls).symm;rw [e,zgr,List.foldl_append];show zgr es (zgr es x (ls.take k)) (ls.drop k)=0;rw [h,runB_zero]
section
variable {lo hi n c:Nat} {A:Option Addr} {s:Sys} {t:ByteArray} {w:World}
theorem runB_lt16 (hf:Few p es)(hp:p<=16) (ls:List Nat):zgr es 1 ls<65536:=by
 rcases zba ls with rfl|⟨u,l,rfl⟩
 ·simp [zgr]
 ·rw [zgY];refine eH (ziT hf _ _) ?_;rw [show (65536:Nat)=2 ^ 16 from rfl];exact dV oM hp
theorem spec_l2Run (h:zR w lo hi A n s)(hv:zl s=true)(ht:zaK t=true) :
  Calls Tryz.prog 204 #[.agg #[s.al,s.st,.slice A n c],(1:Int),t] w fun e w'=>e=.returned (.int .i64 (zgr s.edges 1 (wl t):Nat))∧Ext w w':=by
 obtain⟨p,M,O,m,u⟩:=zcf hv;have G:=za (fun W (hW:Ext w W)=>h.ext hW);have Q:=zaR ht;have H:=za (fun k C=>zaQ ht (k:=k) C);have I:=za u;have q:=za (fun ls=>runB_lt16 u m ls);clear h hv ht u M
 go_enter Tryz.func204,Tryz.ntmps204
 go_upto_region 1 with fail
 generalize U0:w.alloc _=E at *;obtain⟨b,J⟩:=Ext.x1_ U0;clear U0;go_wp2_with fail
 go_loopw [1,7] (fun v i wr=>∃ k x:Nat,i=.int .i64 k∧k<=t.size∧v=.int .i64 x∧x<65536∧Hid (x=zgr s.edges 1 ((wl t).take k))∧Ext E wr) (fun _ i _=>t.size - (intOf i).toNat)
 case atStart=>exact⟨0,1,rfl,dD _,rfl,oM,rfl,cW _⟩
 case round =>
  obtain⟨k,x,rfl,C,rfl,hx,f,a⟩:=hrel
  by_cases hlt:k<t.size
  ·by_cases hx0:x=0
   ·subst hx0;have zjf:=za (show zgr s.edges 1 (wl t)=0 from runB_end f.out.symm);go_wp2;go_ret;exact⟨zD (by rw [zjf.out]),b.trans a⟩
   ·have L:((x:Int) != 0)=true:=by simp;try omega
    have r:=H.out k hlt;obtain⟨l,D⟩:∃ l:Nat,Hid ((t[k].toNat:Int) - 97=l):=⟨t[k].toNat - 97,by unfold Hid;omega⟩;have o:=za (show zbI s.edges x (l:Int)=zgr s.edges 1 ((wl t).take (k+1)) by
     rw [dH,zep hlt,eD,zgY,← f.out]
     congr 1
     have:=D.out;omega)
    have g:=q.out ((wl t).take (k+1));rw [← o.out] at g;have F:=za (fun W (hW:Ext E W)=>zeL (c:=c) (set:=x) (l:=(l:Int)) (G.out W (b.trans hW)) I.out m tM);generalize zbI s.edges x (l:Int)=y at *;have R:∀ W,Ext wr W->∀ j,W.cell? ⟨w.heap.size,j,none⟩=#[Value.int .i64 s.al,.int .i64 s.st,.slice A n c][j]?:=fun W hW=>(J.ext (a.trans hW)).cell;have d:=cW wr;clear r;go_upto_region 4 with fail
    refine uR (fun X=>Ext wr X) [5] (zw.of [0,1,2,3,4,5,6]) ?_;refine uQ ?_;refine zd fun K hK=>?_;go_simp;refine (zbk t k hlt _).mono ?_;rw [D.out];rintro e w' ⟨rfl,rfl⟩;refine hK.out _ _ d.drew ?_;refine pT ?_;refine zb fun K hK=>?_;go_simp;refine (F.out _ (a.trans d.drew)).mono (mQ fun S z=>?_);refine hK.out _ _ ?_;refine pT ?_;refine uQ ?_;refine ze ?_;have B:=a.trans (d.drew.trans z);go_wp2_with fail
    go_roundw
    case rel=>exact⟨k+1,y,gM,oM,rfl,g,o,B⟩
    case measure=>simp [intOf];omega
  ·obtain rfl:k=t.size:=oM;have zjf:=za (show x=zgr s.edges 1 (wl t) by rw [f.out,dG (by rw [zeq];exact cY _)]);go_wp2;go_ret;exact⟨zD (by rw [zjf.out]),b.trans a⟩
def zev (s:Sys) (t:ByteArray):Nat:=if (zl s&&inB t s.al.toNat)=true then zgr s.edges 1 (wl t) else 0
theorem zfZ (h:zR w lo hi A n s)(ht:t.size<=9223372036854775807) :
  Calls Tryz.prog 171 #[.agg #[s.al,s.st,.slice A n c],t] w fun e w'=>e=.returned (.int .i64 (zev s t:Nat))∧Ext w w':=by
 have x:=za (fun W (hW:Ext w W)=>h.ext hW);have l:=za (fun W (hW:Ext w W)=>zah (c:=c) (h.ext hW));clear h;have b:Ext w (w.alloc (.cells #[s.al,s.st,.slice A n c] 39)):=(cW w).alloc _;have g:=dT w 39 #[s.al,s.st,.slice A n c];cases hv:zl s
 ·have j:=za hv;have i:=za (show zev s t=0 by unfold zev;rw [hv];rfl);clear hv
  go_enter Tryz.func171,Tryz.ntmps171
  go_upto_region 1 with fail
  generalize w.alloc _=u at *;have o:=g.cell;go_wp2_with (go_at_call 94;refine (l.out _ b).mono ?_;rw [j.out];rintro e v ⟨rfl,a⟩)
  go_ret;exact⟨zD (by rw [i.out];rfl),b.trans a⟩
 ·have y:=zQ hv;obtain⟨al,d⟩:∃ al:Nat,Hid (s.al=al):=⟨s.al.toNat,by unfold Hid;omega⟩;have f:al<=63:=oH d.out;have i:=za (show zev s t=if inB t al=true then zgr s.edges 1 (wl t) else 0 by unfold zev;rw [hv,d.out];simp);have j:=za hv;cases hi:inB t al
  ·have m:=za hi;rw [hi] at i;clear hv hi
   go_enter Tryz.func171,Tryz.ntmps171
   go_upto_region 1 with fail
   generalize w.alloc _=u at *;have o:=g.cell;go_wp2_with (first
    |(go_at_call 94;refine (l.out _ b).mono ?_;rw [j.out];rintro e v ⟨rfl,a⟩;have r:=((g.ext a).cell 0).trans (show #[Value.int .i64 s.al,.int .i64 s.st,.slice A n c][0]?=some (Value.int .i64 (al:Nat)) by rw [d.out];rfl))
    |(go_at_call 140;refine (zad ht f).mono ?_;rw [m.out];rintro e z ⟨rfl,rfl⟩))
   go_ret;exact⟨zD (by rw [i.out];rfl),b.trans a⟩
  ·have m:=za hi;have p:=za (zaW hi);rw [hi,if_pos rfl] at i;clear hv hi
   go_enter Tryz.func171,Tryz.ntmps171
   go_upto_region 1 with fail
   generalize w.alloc _=u at *;have o:=g.cell;go_upto_region 3 with (first
    |(go_at_call 94;refine (l.out _ b).mono ?_;rw [j.out];rintro e v ⟨rfl,a⟩;have r:=((g.ext a).cell 0).trans (show #[Value.int .i64 s.al,.int .i64 s.st,.slice A n c][0]?=some (Value.int .i64 (al:Nat)) by rw [d.out];rfl))
    |(go_at_call 140;refine (zad ht f).mono ?_;rw [m.out];rintro e z ⟨rfl,rfl⟩))
   have k:=b.trans a;have B:=(g.ext a).cell;clear r o;go_wp2_with (go_at_call 204;refine (spec_l2Run (x.out _ k) j.out p.out).mono (mQ fun C q=>?_))
   go_ret;exact⟨zD (by rw [i.out]),k.trans q⟩
theorem zfW (h:zR w lo hi A n s)(hT:Tab w)(ht:t.size<=9223372036854775807) :
  Calls Tryz.prog 135 #[.agg #[s.al,s.st,.slice A n c],t] w fun e w'=>e=.returned (.int .i64 (zev s t:Nat))∧Ext w w':=by
 have HS:=za (fun W (hW:Ext w W)=>h.ext hW);have HT:=za (fun W (hW:Ext w W)=>hT.ext hW);have F:=za (fun W (hW:Ext w W)=>zaq (c:=c) (h.ext hW));clear h hT;have b:Ext w (w.alloc (.cells #[s.al,s.st,.slice A n c] 39)):=(cW w).alloc _;have r:=dT w 39 #[s.al,s.st,.slice A n c];cases hv:zl s
 ·have D:=za hv;have j:=za (show zev s t=0 by unfold zev;rw [hv];rfl);clear hv
  go_enter Tryz.func135,Tryz.ntmps135
  go_upto_region 1 with fail
  generalize w.alloc _=X at *;have H:=r.cell;go_wp2_with (go_at_call 41;refine (F.out _ b).mono ?_;rw [D.out];rintro e Y ⟨rfl,a⟩)
  go_ret;exact⟨zD (by rw [j.out];rfl),b.trans a⟩
 ·have ag:=zQ hv;obtain⟨al,d⟩:∃ al:Nat,Hid (s.al=al):=⟨s.al.toNat,by unfold Hid;omega⟩;have g:al<=63:=oH d.out;have j:=za (show zev s t=if inB t al=true then zgr s.edges 1 (wl t) else 0 by unfold zev;rw [hv,d.out];simp);have D:=za hv;cases hi:inB t al
  ·have G:=za (show (decide (t.size<=50000)&&zdD t al)=false from hi);rw [hi] at j;clear hv hi
   go_enter Tryz.func135,Tryz.ntmps135
   go_upto_region 1 with fail
   generalize w.alloc _=X at *;have H:=r.cell;go_wp2_with (first
    |(go_at_call 41;refine (F.out _ b).mono ?_;rw [D.out];rintro e Y ⟨rfl,a⟩;have T:=((r.ext a).cell 0).trans (show #[Value.int .i64 s.al,.int .i64 s.st,.slice A n c][0]?=some (Value.int .i64 (al:Nat)) by rw [d.out];rfl))
    |(go_at_call 56;refine (zaP t al _ ht g).mono ?_;rw [G.out];rintro e w3 ⟨rfl,rfl⟩))
   go_ret;exact⟨zD (by rw [j.out];rfl),b.trans a⟩
  ·have G:=za (show (decide (t.size<=50000)&&zdD t al)=true from hi);have o:=zaW hi;obtain⟨p,hp,aj,z,J⟩:=zcf hv;have ak:=zaR o;have Hb:=za (fun k U=>zaQ o (k:=k) U);have S:=za J;have E:=za (fun ls=>runB_lt16 J z ls);rw [hi,if_pos rfl] at j;clear hv hi J hp o
   go_enter Tryz.func135,Tryz.ntmps135
   go_upto_region 1 with fail
   generalize w.alloc _=X at *;have H:=r.cell;go_upto_region 3 with (first
    |(go_at_call 41;refine (F.out _ b).mono ?_;rw [D.out];rintro e Y ⟨rfl,a⟩;have T:=((r.ext a).cell 0).trans (show #[Value.int .i64 s.al,.int .i64 s.st,.slice A n c][0]?=some (Value.int .i64 (al:Nat)) by rw [d.out];rfl))
    |(go_at_call 56;refine (zaP t al _ ht g).mono ?_;rw [G.out];rintro e w3 ⟨rfl,rfl⟩))
   have C:=b.trans a;have c3:=(r.ext a).cell;clear T H;go_wp2_with (go_at_call 165;refine (zfJ (HS.out _ C) (fun e he=>by have:=S.out e he;omega)).mono ?_;rintro e R ⟨bm,rfl,_,V,O⟩)
   have m:=C.trans O;have HM:=za (fun W (hW:Ext R W)=>(V.ext hW).at_);clear V c3
   go_loopw [6,7] (fun v i wr=>∃ k x:Nat,i=.int .i64 k∧k<=t.size∧v=.int .i64 x∧x<65536∧Hid (x=zgr s.edges 1 ((wl t).take k))∧Ext R wr) (fun _ i _=>t.size - (intOf i).toNat)
   case atStart=>exact⟨0,1,rfl,dD _,rfl,oM,rfl,cW _⟩
   case round =>
    obtain⟨k,x,rfl,U,rfl,hx,q,f⟩:=hrel
    by_cases hlt:k<t.size
    ·by_cases hx0:x=0
     ·subst hx0;have zjf:=za (show zgr s.edges 1 (wl t)=0 from runB_end q.out.symm);go_wp2;go_ret;exact⟨zD (by rw [j.out,zjf.out]),m.trans f⟩
     ·have ah:((x:Int) != 0)=true:=by simp;try omega
      have I:=Hb.out k hlt;obtain⟨l,L⟩:∃ l:Nat,Hid (ltr t[k].toNat=l∧l<6∧t[k].toNat - 97=l):=⟨t[k].toNat - 97,by unfold Hid ltr;rw [if_neg oM];omega⟩;have M:=L.out.2.1;have B:=za (show zbI s.edges x (l:Int)=zgr s.edges 1 ((wl t).take (k+1)) by
       rw [dH,zep hlt,eD,zgY,← q.out,L.out.2.2])
      have u:=E.out ((wl t).take (k+1));rw [← B.out] at u;have Z:=za (fun W (hW:Ext R W)=>impl_step (HM.out W hW) (HT.out W (m.trans hW)) (show x<2 ^ 16 from hx) M S.out z);generalize zbI s.edges x (l:Int)=y at *;clear I;go_wp2_with (first
       |(go_at_call 110;refine (zaI t k hlt _).mono ?_;rw [L.out.1];rintro e w' ⟨rfl,rfl⟩)
       |(go_at_call 166;refine (Z.out _ f).mono (mQ fun w6 Q=>?_)))
      go_roundw
      case rel=>exact⟨k+1,y,gM,oM,rfl,u,B,f.trans Q⟩
      case measure=>simp [intOf];omega
    ·obtain rfl:k=t.size:=oM;have zjf:=za (show x=zgr s.edges 1 (wl t) by rw [q.out,dG (by rw [zeq];exact cY _)]);go_wp2;go_ret;exact⟨zD (by rw [j.out,zjf.out]),m.trans f⟩
theorem ziH (h:zR w lo hi A n s)(ht:t.size<=9223372036854775807) :
  Calls Tryz.prog 141 #[.agg #[s.al,s.st,.slice A n c],t] w fun e w'=>e=.returned (.bool (zev s t != 0))∧Ext w w':=by
 have b:=za (fun W (hW:Ext w W)=>zfZ (c:=c) (h.ext hW) ht);have d:=za (show (((zev s t:Nat):Int) != 0)=(zev s t != 0) by rw [gY];simp;try omega);generalize zev s t=y at *
 go_enter Tryz.func141,Tryz.ntmps141
 go_wp2_with (go_at_call 171;refine (b.out _ ((cW _).alloc _)).mono (mQ fun f a=>?_))
 go_ret;exact⟨zj (by rw [d.out]),((cW _).alloc _).trans a⟩
theorem ziq (h:zR w lo hi A n s)(hT:Tab w)(ht:t.size<=9223372036854775807) :
  Calls Tryz.prog 88 #[.agg #[s.al,s.st,.slice A n c],t] w fun e w'=>e=.returned (.bool (zev s t != 0))∧Ext w w':=by
 have b:=za (fun W (hW:Ext w W)=>zfW (c:=c) (h.ext hW) (hT.ext hW) ht);have d:=za (show (((zev s t:Nat):Int) != 0)=(zev s t != 0) by rw [gY];simp;try omega);generalize zev s t=y at *
 go_enter Tryz.func88,Tryz.ntmps88
 go_wp2_with (go_at_call 135;refine (b.out _ ((cW _).alloc _)).mono (mQ fun f a=>?_))
 go_ret;exact⟨zj (by rw [d.out]),((cW _).alloc _).trans a⟩
end
theorem ziR {L:Int}    {q':Nat}  {a p:Aut}(h:zeO w PA pn AA an ss [a,p])(h':Lst zbo w lo hi SA st)(hsn:st.length=sn)(hq:st[pn]?=some q)(hqa:q<a.acc.length)(hq':st[pn+1]?=some q')(hqp:q'<p.acc.length) :
  Calls Tryz.prog 208 #[.agg #[.slice PA pn pc,.slice AA an ac,sv,L,(2:Int),G],.slice SA sn sc,mv] w fun e w'=>e=.returned (.bool (zdr a q&&!zdr p q'))∧Ext w w':=by
 have g:∀ W,Ext w W->Calls Tryz.prog 243 #[.agg #[.slice PA pn pc,.slice AA an ac,sv,L,(2:Int),G],.slice SA sn sc,(0:Int)] W fun e w'=>e=.returned (.bool (zdr a q))∧Ext W w':=
  fun W hW=>zhj (i:=0) (a:=a) (q:=q) (st:=st) (us:=[a,p]) (h.ext hW) (h'.ext zbo.ok hW) hsn sM (by rw [Nat.add_zero];exact hq) hqa
 replace g:=za g;have j:∀ W,Ext w W->Calls Tryz.prog 243 #[.agg #[.slice PA pn pc,.slice AA an ac,sv,L,(2:Int),G],.slice SA sn sc,(1:Int)] W fun e w'=>e=.returned (.bool (zdr p q'))∧Ext W w':=
  fun W hW=>zhj (i:=1) (a:=p) (q:=q') (st:=st) (us:=[a,p]) (h.ext hW) (h'.ext zbo.ok hW) hsn sM hq' hqp
 replace j:=za j;clear h h' hsn hq hqa hq' hqp;generalize zdr a q=x at *;generalize zdr p q'=y at *
 go_enter Tryz.func208,Tryz.ntmps208
 have d:Ext w (w.alloc (.cells #[.slice PA pn pc,.slice AA an ac,sv,L,(2:Int),G] 178)):=(cW w).alloc _;have c:=dT w 178 #[.slice PA pn pc,.slice AA an ac,sv,L,(2:Int),G];cases x
 all_goals
  go_upto_region 1 with fail
  generalize w.alloc _=o at *;have m:=c.cell;go_wp2_with (first
   |(go_at_call 243;with_reducible refine (g.out _ d).mono (mQ fun r f=>?_);have b:=d.trans f;have n:=(c.ext f).cell)
   |(go_at_call 243;with_reducible refine (j.out _ b).mono (mQ fun s l=>?_);have k:=b.trans l))
  go_ret;exact⟨zj sM,by first|exact k|exact b⟩
theorem ziS {L:Int}      {p:Aut}(h:zeO w PA pn AA an ss [p])(h':Lst zbo w lo hi SA st)(hsn:st.length=sn)(hq:st[pn]?=some q)(hqa:q<p.acc.length) :
  Calls Tryz.prog 208 #[.agg #[.slice PA pn pc,.slice AA an ac,sv,L,(3:Int),G],.slice SA sn sc,mv] w fun e w'=>e=.returned (.bool (!zdr p q))∧Ext w w':=by
 have c:∀ W,Ext w W->Calls Tryz.prog 243 #[.agg #[.slice PA pn pc,.slice AA an ac,sv,L,(3:Int),G],.slice SA sn sc,(0:Int)] W fun e w'=>e=.returned (.bool (zdr p q))∧Ext W w':=
  fun W hW=>zhj (i:=0) (a:=p) (q:=q) (st:=st) (us:=[p]) (h.ext hW) (h'.ext zbo.ok hW) hsn sM (by rw [Nat.add_zero];exact hq) hqa
 replace c:=za c;clear h h' hsn hq hqa;generalize zdr p q=x at *
 go_enter Tryz.func208,Tryz.ntmps208
 go_upto_region 1 with fail
 generalize U0:w.alloc _=k at *;obtain⟨b,d⟩:=Ext.x1_ U0;clear U0;have j:=d.cell;go_wp2_with (go_at_call 243;with_reducible refine (c.out _ b).mono (mQ fun l g=>?_);have f:=b.trans g)
 go_ret;exact⟨zj sM,f⟩
end Go.Proofs.YtfcjhpodichpjaaGreatDoor
