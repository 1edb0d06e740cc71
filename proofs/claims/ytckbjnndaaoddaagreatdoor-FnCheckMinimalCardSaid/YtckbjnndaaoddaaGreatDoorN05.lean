/- Plain: a val -/
import Derived.Test.YtckbjnndaaoddaaGreatDoorN04
import Derived.Shelf.RegionOpenPlain
import Derived.Deep.LoopGhost
import Derived.Sort.WalkB12
import Derived.Lib.SlicesMore
set_option maxHeartbeats 4000000
set_option maxRecDepth 100000
namespace Go.Proofs.YtckbjnndaaoddaaGreatDoor
open Go Go.RowKit
open Blk renaming new->dX
open Bool renaming and_eq_true->dI,eq_false_iff->eM,or_eq_true->gJ
open Ext renaming drew->eV,refl->dB,trans->eJ
open Frm renaming setCell->dH
open Int renaming natCast_mul->fJ
open List renaming append_nil->gY,drop_eq_getElem_cons->fN,drop_of_length_le->gD,filter_append->iQ,getD_eq_getElem?_getD->dF,getElem?_append_left->dJ,getElem?_append_right->dP,getElem?_eq_getElem->dD,getElem?_eq_none->eC,getElem?_map->dS,getElem?_of_mem->eB,getElem_mem->e9,length_append->dN,length_map->dQ,length_singleton->dZ,length_take->eT,map_append->eK,mem_of_getElem?->dC,mem_of_mem_take->gU,pairwise_iff_getElem->jF,pairwise_lt_range->jQ,replicate->dT,take_add_one->dO,take_length->eI,take_of_length_le->dK
open Nat renaming add_sub_cancel->gK,eq_of_testBit_eq->fV,le_refl->dE,le_trans->dL,lt_of_lt_of_le->dY,lt_or_ge->eL,lt_trichotomy->eU,mul_le_mul->eR,pow_le_pow_right->dV,sub_self->fC,testBit_lt_two_pow->gE,zero_add->dW,zero_le->dG
open Option renaming toList_some->eD
open Reads renaming af->eE
variable {A AA B PA SA:Option Addr} {G K L:Int} {N R a ac an b base c cap d g hi hi' i j k k0 kg l lo lo' m n o off p pc pn q sc x:Nat} {S T:Nat->Prop} {W W' W1 w w' w0:World} {bs fr ns st sz xs:List Nat} {capg cs:Array Value} {e t:TypeId} {es:List Edg} {r sv v:Value} {rows:List Value} {s:Sys} {ss:List Sys}
theorem ltE_trans {a b c:Edg}(h:ltE a b=true)(h':ltE b c=true):ltE a c=true:=by
 unfold ltE at *
 (repeat' split at h)<;>(repeat' split at h')<;>(repeat' split)<;>simp only [decide_eq_true_eq] at*<;> omega
theorem ltE_iff {a b:Edg}:ltE a b=true↔a.fr<b.fr∨a.fr=b.fr∧(a.le<b.le∨a.le=b.le∧a.ta<b.ta):=by
 unfold ltE
 (repeat' split)<;>simp only [decide_eq_true_eq]<;>omega
def zgF (es:List Edg):Prop:=∀ (a b:Nat) (x y:Edg),es[a]?=some x->es[b]?=some y->a<b->ltE x y=true
theorem rising_of (h:∀ k x y,es[k]?=some x->es[k+1]?=some y->ltE x y=true):zgF es:=by
 intro a b x y hx hy hab
 induction b generalizing y with
 |zero=>omega
 |succ b ih =>
  have g:=(List.getElem?_eq_some_iff.1 hy).1;obtain⟨z,c⟩:∃ z,es[b]?=some z:=⟨_,dD oM⟩;have d:=h b z y c hy;rcases eL a b with f|f
  ·exact ltE_trans (ih z c f) d
  ·obtain rfl:a=b:=oM;rw [hx] at c;obtain rfl:=Option.some.inj c;exact d
theorem zdS :zk s=true↔(0<=s.al∧s.al<=63)∧(1<=s.st∧s.st<=16)∧(∀ e∈s.edges,edgB s.al.toNat s.st e=true)∧zgF s.edges:=by
 simp only [zk,dI,decide_eq_true_eq,List.all_eq_true,List.mem_range];constructor
 ·rintro ⟨f,g,c⟩;refine⟨f,g,fun e he=>?_,rising_of fun k x y d b=>?_⟩
  ·obtain⟨k,a⟩:=eB he;have:=c k (List.getElem?_eq_some_iff.1 a).1;rw [zbi,a] at this;simp only [dI] at this;exact this.1
  ·have:=c (k+1) (List.getElem?_eq_some_iff.1 b).1;unfold zbi at this;rw [b] at this;simp only [gK,d,dI,gJ,decide_eq_true_eq] at this;rcases this.2 with h|h
   ·omega
   ·exact h
 ·rintro ⟨f,g,c,i⟩;refine⟨f,g,fun k a=>?_⟩;have d:s.edges[k]?=some s.edges[k]:=dD a;unfold zbi;rw [d];simp only [dI,gJ,decide_eq_true_eq];refine⟨c _ (e9 a),?_⟩;cases k with
  |zero=>exact Or.inl rfl
  |succ k =>
   have b:s.edges[k]?=some s.edges[k]:=dD oM;simp only [gK,b];exact Or.inr (i k (k+1) _ _ b d oM)
def rk (R n:Nat):Nat:=(letters R n).length
theorem zcQ (R n:Nat):rk R (n+1)=rk R n+if R.testBit n then 1 else 0:=by
 unfold rk;rw [zaX,dN];cases R.testBit n<;>simp
theorem rk_le (R n:Nat):rk R n<=n:=zy R n
theorem rk_mono (h:a<=b):rk R a<=rk R b:=by
 induction b with
 |zero=>rw [show a=0 by omega];exact dE _
 |succ b ih =>
  rcases eL a (b+1) with c|c
  ·rw [zcQ];have:=ih oM;omega
  ·rw [show a=b+1 by omega];exact dE _
theorem rk_lt (h:a<b)(ha:R.testBit a=true):rk R a<rk R b:=by
 have c:=rk_mono (R:=R) (show a+1<=b by omega);rw [zcQ,ha] at c;simp at c;omega
theorem rk_inj (ha:R.testBit a=true)(hb:R.testBit b=true)(h:rk R a=rk R b):a=b:=by
 rcases eU a b with c|c|c
 ·have:=rk_lt c ha;omega
 ·exact c
 ·have:=rk_lt c hb;omega
def subI (R:Nat) (e:Edg):Bool:=hasB R e.fr&&hasB R e.ta
def subJ (R:Nat) (e:Edg):Edg:=⟨rk R e.fr.toNat,e.le,rk R e.ta.toNat⟩
def subE (R:Nat) (es:List Edg):List Edg:=(es.filter (subI R)).map (subJ R)
theorem zhk (R:Nat) (es:List Edg) (e:Edg):subE R (es++[e])=if subI R e then subE R es++[subJ R e] else subE R es:=by
 unfold subE;rw [iQ,eK];cases h:subI R e<;>simp [h]
def zhJ (s:Sys) (R:Nat):Sys:=⟨s.al,rk R 32,subE R s.edges⟩
def zgE (es:List Edg) (p R:Nat):Prop:=R<2 ^ p∧∀ i,R.testBit i=true↔Rch es i
section
variable {es:List Edg} {p R:Nat}
theorem subE_E :E (subE R es) a l b↔∃ i k,R.testBit i=true∧R.testBit k=true∧E es i l k∧rk R i=a∧rk R k=b:=by
 unfold E subE;constructor
 ·rintro ⟨e,j,d,f,g⟩;obtain⟨x,h,rfl⟩:=List.mem_map.1 j;rw [List.mem_filter] at h;obtain⟨h,c⟩:=h;simp only [subI,hasB,dI,decide_eq_true_eq] at c;simp only [subJ] at d f g;exact⟨x.fr.toNat,x.ta.toNat,c.1.2,c.2.2,⟨x,h,oM,f,oM⟩,oM,oM⟩
 ·rintro ⟨i,k,c,o,⟨e,j,d,f,g⟩,m,n⟩;refine⟨subJ R e,List.mem_map.2 ⟨e,List.mem_filter.2 ⟨j,?_⟩,rfl⟩,?_,f,?_⟩
  ·simp only [subI,hasB,dI,decide_eq_true_eq];rw [d,g];exact⟨⟨oM,c⟩,⟨oM,o⟩⟩
  ·simp only [subJ];rw [d,show ((i:Nat):Int).toNat=i from rfl,m]
  ·simp only [subJ];rw [g,show ((k:Nat):Int).toNat=k from rfl,n]
theorem subE_rising (hr:zgF es):zgF (subE R es):=by
 have p:es.Pairwise (fun x y=>ltE x y=true):=by
  rw [jF];intro i j hi hj hij;exact hr i j _ _ (dD hi) (dD hj) hij
 have g:(subE R es).Pairwise (fun x y=>ltE x y=true):=by
  unfold subE;rw [List.pairwise_map];have k:=p.filter (subI R);have m:(es.filter (subI R)).Pairwise (fun x y=>subI R x=true∧subI R y=true∧ltE x y=true):=by
   rw [jF] at k ⊢;intro i j hi hj hij;exact⟨(List.mem_filter.1 (e9 hi)).2,(List.mem_filter.1 (e9 hj)).2,k i j hi hj hij⟩
  refine m.imp ?_;rintro x y ⟨c,d,h⟩;simp only [subI,hasB,dI,decide_eq_true_eq] at c d;rw [ltE_iff] at h ⊢;simp only [subJ];have q:x.fr<y.fr->rk R x.fr.toNat<rk R y.fr.toNat:=fun h=>rk_lt oM c.1.2;have r:x.ta<y.ta->rk R x.ta.toNat<rk R y.ta.toNat:=fun h=>rk_lt oM c.2.2;have l:x.fr=y.fr->rk R x.fr.toNat=rk R y.fr.toNat:=fun h=>by rw [h]
  rcases h with h|⟨f,h|⟨g,h⟩⟩
  ·have:=q h;omega
  ·have:=l f;omega
  ·have:=l f;have:=r h;omega
 intro a b x y c d hab;obtain⟨n,rfl⟩:=List.getElem?_eq_some_iff.1 c;obtain⟨o,rfl⟩:=List.getElem?_eq_some_iff.1 d;exact List.pairwise_iff_getElem.1 g a b n o hab
end
theorem sub_valid (h:zk s=true)(hp:s.st=p)(hR:zgE s.edges p R):zk (zhJ s R)=true:=by
 obtain⟨f,q,g,j⟩:=zdS.1 h;have m:rk R 32<=16:=by
  have:∀ d,rk R (16+d)<=16:=by
   intro d
   induction d with
   |zero=>exact rk_le R 16
   |succ d ih =>
    rw [show 16+(d+1)=16+d+1 by omega,zcQ];have k:R.testBit (16+d)=false:=gE (dY hR.1 (dV oM oM));rw [k];simpa using ih
  exact this 16
 have l:0<rk R 32:=by
  have:=rk_lt (R:=R) (show 0<32 by omega) ((hR.2 0).2 .zero);omega
 have b:∀ i,R.testBit i=true->rk R i<rk R 32:=fun i a=>by
  refine rk_lt ?_ a;rcases eL i 32 with h|h
  ·exact h
  ·have:R.testBit i=false:=gE (dY hR.1 (dV oM oM));rw [this] at a;cases a
 refine zdS.2 ⟨f,⟨by simp only [zhJ];omega,by simp only [zhJ];omega⟩,fun e he=>?_,subE_rising j⟩;obtain⟨x,c,rfl⟩:=List.mem_map.1 he;obtain⟨c,a⟩:=List.mem_filter.1 c;have:=g x c;simp only [subI,edgB,zhJ,subJ,hasB,dI,decide_eq_true_eq] at a this ⊢;have n:=b _ a.1.2;have o:=b _ a.2.2;exact⟨⟨decide_eq_true oM,decide_eq_true oM⟩,⟨decide_eq_true oM,decide_eq_true oM⟩,decide_eq_true this.2.2.1,decide_eq_true this.2.2.2.1,this.2.2.2.2⟩
def ALAt (w:World) (lo hi:Nat) (A:Option Addr) (n:Nat) (us:List Aut):Prop:=
 n=us.length∧∃ cells,Reads w lo hi 3 A n cells∧∀ (k:Nat) (a:Aut),us[k]?=some a->∃ (B:Option Addr) (m c:Nat) (B':Option Addr) (m' c':Nat),cells[k*3]?=some (.int .i64 a.al)∧cells[k*3+1]?=some (.slice B m c)∧cells[k*3+2]?=some (.slice B' m' c')∧zH w lo hi B m B' m' a
section
variable {w w':World} {lo hi n k:Nat} {A:Option Addr} {us:List Aut}
theorem ALAt.ext (h:ALAt w lo hi A n us)(hb:Ext w w'):ALAt w' lo hi A n us:=by
 obtain⟨e,a,l,o⟩:=h;refine⟨e,a,l.ext hb,fun k s hs=>?_⟩;obtain⟨B,m,c,b,p,d,f,g,i,j⟩:=o k s hs;exact⟨B,m,c,b,p,d,f,g,i,j.ext hb⟩
theorem ALAt.len (h:ALAt w lo hi A n us):n<=9223372036854775807:=by
 obtain⟨_,a,b,_⟩:=h;exact b.len
theorem ALAt.aut (h:ALAt w lo hi A n us)(hk:k<n):∃ b o a B m c B' m' c',A=some ⟨b,o,none⟩∧Hid (us[k]?=some a)∧w.cell? ⟨b,o+k*3,none⟩=some (.int .i64 a.al)∧w.cell? ⟨b,o+k*3+1,none⟩=some (.slice B m c)∧w.cell? ⟨b,o+k*3+2,none⟩=some (.slice B' m' c')∧zH w lo hi B m B' m' a:=by
 obtain⟨e,d,s,j⟩:=h;have f:us[0]?=some (us[0]' oM):=dD _;obtain⟨_,_,_,_,_,_,l,_⟩:=j 0 _ f;rw [Nat.zero_mul] at l;obtain⟨b,o,rfl,u,t,g⟩:=zid s oM l;have i:us[k]?=some (us[k]' oM):=dD _;obtain⟨B,m,c,B',m',c',f,p,q,r⟩:=j k _ i;exact⟨b,o,_,B,m,c,B',m',c',rfl,i,g _ _ f,by rw [Nat.add_assoc];exact g _ _ p,by rw [Nat.add_assoc];exact g _ _ q,r⟩
end
structure zeY (w:World) (PA:Option Addr) (pn:Nat) (AA:Option Addr) (an:Nat) (ss:List Sys) (us:List Aut):Prop where
 sys:∃ lo hi,zeB w lo hi PA pn ss
 aut:∃ lo hi,ALAt w lo hi AA an us
theorem zeY.ext {us:List Aut}(h:zeY w PA pn AA an ss us)(hx:Ext w w'):zeY w' PA pn AA an ss us:=by
 obtain⟨⟨g,f,c⟩,b,a,d⟩:=h;exact⟨⟨g,f,c.ext hx⟩,b,a,d.ext hx⟩
def zbf (ss:List Sys) (us:List Aut):List Mem:=ss.map zdA++us.map zbW
def szs (ss:List Sys) (us:List Aut):List Nat:=ss.map (fun s=>s.st.toNat)++us.map fun a=>a.next.length
theorem zfq (ss:List Sys) (us:List Aut):(zbf ss us).map Prod.fst=szs ss us:=by
 simp [zbf,szs,zdA,zbW,Function.comp_def]
structure zdk (ss:List Sys) (us:List Aut):Prop where
 sys:∀ s∈ss,zk s=true
 aut:∀ a∈us,zi a=true
 few:ss.length<=3
 few':us.length<=2
theorem zbZ (h:zk s=true):Sml s:=by
 obtain⟨a,b,f,g⟩:=zdS.1 h;obtain⟨p,d,_,_,c⟩:=zbl h;refine⟨b.1,b.2,?_,a.1,a.2⟩;rw [d];exact c
theorem zdk.ok {us:List Aut}(h:zdk ss us):∀ m∈zbf ss us,zec m:=by
 intro m hm;rcases List.mem_append.1 hm with b|b
 ·obtain⟨s,d,rfl⟩:=List.mem_map.1 b;exact zeO (zbZ (h.sys s d))
 ·obtain⟨a,c,rfl⟩:=List.mem_map.1 b;exact zbN (h.aut a c)
theorem prodS_le {l:List Nat} (h:∀ x∈l,x<=b):zax l<=b ^ l.length:=by
 induction l with
 |nil=>simp [zax]
 |cons x r ih =>
  rw [zax,List.length_cons,Nat.pow_succ,Nat.mul_comm];exact eR (ih fun y hy=>h y (by simp [hy])) (h x sM)
theorem zdk.le16 {us:List Aut}(h:zdk ss us):∀ x∈szs ss us,1<=x∧x<=16:=by
 intro x hx;rcases List.mem_append.1 hx with b|b
 ·obtain⟨s,f,rfl⟩:=List.mem_map.1 b;have c:=zbZ (h.sys s f);have:=c.1;have:=c.2.1;omega
 ·obtain⟨a,d,rfl⟩:=List.mem_map.1 b;have:=(zl (h.aut a d)).2.1;omega
theorem zdk.len {us:List Aut}(h:zdk ss us):(szs ss us).length<=5:=by
 have:=h.few;have:=h.few';simp [szs];omega
theorem zdk.total {us:List Aut}(h:zdk ss us) (l:List Nat)(hl:l.Sublist (szs ss us)):1<=zax l∧zax l<=1048576:=by
 refine⟨prodS_pos fun x hx=>(h.le16 x (hl.subset hx)).1,?_⟩;have a:=prodS_le (l:=l) (b:=16) fun x hx=>(h.le16 x (hl.subset hx)).2;have c:=hl.length_le;have d:=h.len
 calc zax l<=16 ^ l.length:=a
  _<=16 ^ 5:=dV oM oM
  _=1048576:=dM
theorem place_succ (a k:Nat):place a (k+1)=place a k+if a.testBit k then 1 else 0:=by
 unfold place;rw [zaX,dN];cases a.testBit k<;>simp
theorem spec_l1Place (a l:Nat)(ha:Sm a)(hl:l<=6) (w:World) :
  Calls Tryz.prog 279 #[a,l] w fun e w'=>e=.returned (.int .i64 (place a l:Nat))∧w=w':=by
 go_enter Tryz.func279,Tryz.ntmps279
 go_wp2
 go_loop [5,6] (fun v i=>∃ k y:Nat,k<=l∧i=.int .i64 k∧v=.int .i64 y∧y<=k∧Hid (y=place a k)) (fun _ i=>l - (intOf i).toNat)
 case atStart=>exact⟨0,0,dG _,rfl,rfl,dE _,rfl⟩
 case round =>
  obtain⟨k,y,f,rfl,rfl,g,b⟩:=hrel
  by_cases hlt:k<l
  ·cases hb:a.testBit k
   all_goals
    have c:=za hb;have d:=za (place_succ a k);clear hb;go_wp2_with (go_at_call 143;refine (zau a k ha _ oM).mono ?_;rw [c.out];rintro e w' ⟨rfl,rfl⟩)
    go_round
    case rel=>first|exact⟨k+1,y,oM,gM,rfl,oM,by unfold Hid;rw [d.out,c.out,← b.out];rfl⟩|exact⟨k+1,y+1,oM,gM,gM,oM,by unfold Hid;rw [d.out,c.out,← b.out];rfl⟩
    case measure=>simp [intOf];omega
  ·obtain rfl:l=k:=oM;go_wp2;go_ret;exact⟨zD (by rw [b.out]),rfl⟩
theorem zdh {B':Option Addr} {m' d':Nat} {a:Aut}  (h:zH w lo hi B m B' m' a)(hv:zi a=true)(hq:q<a.next.length)(hl:l<6) :
  Calls Tryz.prog 225 #[.agg #[a.al,.slice B m d,.slice B' m' d'],q,l] w fun e w'=>e=.returned (.int .i64 (aGo a q l:Nat))∧Ext w w':=by
 obtain⟨⟨s,t⟩,_,_,f⟩:=zl hv;obtain⟨al,g⟩:∃ al:Nat,Hid (a.al=al):=⟨a.al.toNat,by unfold Hid;omega⟩;have n:Sm al:=by have:=g.out;unfold Sm;omega
 have o:a.al.toNat=al:=oH g.out;have Hn:=za h.n1;have V:=za (fun W (hW:Ext w W)=>h.1.ext hW);have O:q<m:=by rw [h.n1];exact hq
 have S:=za (show aGo a q l=if al.testBit l then ((a.next.getD q []).getD (place al l) 0).toNat else q by unfold aGo;rw [o]);have c:a.next[q]?=some a.next[q]:=dD hq;obtain⟨k,C⟩:=f q _ c;rw [o] at k;have i:=za c;have H:=za C;have G:=za k;have aa:=h.1.len;clear k C c o f h;generalize a.next[q]=row at *;cases hb:al.testBit l
 ·have r:=za hb;clear hb;rw [g.out];clear s t
  go_enter Tryz.func225,Tryz.ntmps225
  go_wp2_with (go_at_call 143;refine (zau al l n _ oM).mono ?_;rw [r.out];rintro e w' ⟨rfl,rfl⟩)
  go_ret;exact⟨zD (by rw [S.out,r.out];rfl),(dB _).alloc _⟩
 ·have hp:=za (place_lt hl hb);have r:=za hb;clear hb;rw [g.out];clear s t;have v:place al l<row.length:=by rw [G.out];exact hp.out
  obtain⟨x,Q⟩:∃ x,Hid (row[place al l]?=some x):=⟨_,dD v⟩;obtain⟨x0,x1⟩:=H.out x (dC Q.out);obtain⟨y,rfl⟩:∃ y:Nat,x=y:=⟨x.toNat,oM⟩;have R:=za (show aGo a q l=y by rw [S.out,r.out,if_pos rfl];simp only [dF,i.out,Option.getD_some,Q.out];rfl)
  go_enter Tryz.func225,Tryz.ntmps225
  go_wp2_with (go_at_call 143;refine (zau al l n _ oM).mono ?_;rw [r.out];rintro e w' ⟨rfl,rfl⟩)
  generalize U0:w.alloc _=p at *;obtain⟨E,J⟩:=Ext.x1_ U0;clear U0;obtain⟨X,U,Z,l',rfl,_,_,M,T,D⟩:=(V.out p E).row O;obtain rfl:row=l':=by have I:=i.out;have u:=M.out;rw [I] at u;exact Option.some.inj u
  have j:∀ W,Ext p W->∃ b,U=some b∧W.cell? (b.add (place al l))=some (.int .i64 (y:Nat)):=fun W hW=>by
   obtain⟨b,z,e,_,_,hz,L⟩:=(D.ext hW).int v;have I:=Q.out;have u:=hz.out;rw [I] at u;obtain rfl:=Option.some.inj u;exact⟨b,e,L⟩
  obtain⟨b,rfl,_⟩:=j p (dB _);have c2:∀ W,Ext p W->W.cell? (b.add (place al l))=some (.int .i64 (y:Nat)):=fun W hW=>by
   obtain⟨Y,e,h⟩:=j W hW;injection e with e
   subst e;exact h
  have c1:∀ W,Ext p W->W.cell? (X.add q)=some (.slice (some b) row.length Z):=fun W hW=>hW.aa T;have c0:=J.cells;clear j T D;have ae:(place al l:Int)<(row.length:Int):=oM;have af:=dB p;generalize hpp:place al l=pl at *;have F:=za hpp;clear hpp;go_wp2_with fail
  go_region_held3 (fun W=>Ext p W) (first|assumption|(refine eV ?_;assumption)|(refine eJ ?_ aM;assumption)|(refine eJ ?_ aM;refine eV ?_;assumption)) ((go_at_call 279;refine (spec_l1Place al l n oM _).mono ?_;rw [F.out];rintro e w' ⟨rfl,rfl⟩))
  go_wp2;go_ret;exact⟨zD (by rw [R.out]),E.trans aM⟩
abbrev Lay (α:Type):=World->Nat->Nat->Value->α->Prop
structure Lay.Ok {α:Type} (P:Lay α):Prop where
 frm:∀ {S:Nat->Prop} {W W':World} {lo hi:Nat} {r:Value} {x:α},P W lo hi r x->Frm S W W'->(∀ k,lo<=k->k<hi->¬ S k)->P W' lo hi r x
 more:∀ {W:World} {lo hi lo' hi':Nat} {r:Value} {x:α},P W lo hi r x->lo'<=lo->hi<=hi'->P W lo' hi' r x
def zbs:Lay Nat:=fun _ _ _ r n=>r=.int .i64 (n:Nat)
theorem zbs.ok:Lay.Ok zbs:=⟨fun h _ _=>h,fun h _ _=>h⟩
def Lst {α:Type} (P:Lay α) (W:World) (lo hi:Nat) (A:Option Addr) (xs:List α):Prop:=
 ∃ rows,Reads W lo hi 1 A xs.length rows∧∀ (i:Nat) (r:Value) (x:α),rows[i]?=some r->xs[i]?=some x->P W lo hi r x
def LstP {α:Type} (P:Lay α):Lay (List α):=fun W lo hi r xs=>∃ A c,r=.slice A xs.length c∧Lst P W lo hi A xs
section
variable {α:Type} {P:Lay α} {W W':World} {lo hi:Nat} {A:Option Addr} {xs:List α}
theorem Lst.frm (hP:Lay.Ok P) (h:Lst P W lo hi A xs)(hx:Frm S W W')(hS:∀ k,lo<=k->k<hi->¬ S k):Lst P W' lo hi A xs:=by
 obtain⟨a,b,c⟩:=h;exact⟨a,b.frm hx hS,fun i r x hr hx'=>hP.frm (c i r x hr hx') hx hS⟩
theorem Lst.ext (hP:Lay.Ok P)(h:Lst P W lo hi A xs)(hx:Ext W W'):Lst P W' lo hi A xs:=h.frm hP hx (fun _ _ _ h=>h)
theorem Lst.more (hP:Lay.Ok P) (h:Lst P W lo hi A xs)(h1:lo'<=lo)(h2:hi<=hi'):Lst P W lo' hi' A xs:=by
 obtain⟨a,b,c⟩:=h;exact⟨a,b.more h1 h2,fun i r x hr hx'=>hP.more (c i r x hr hx') h1 h2⟩
theorem LstP.ok (hP:Lay.Ok P):Lay.Ok (LstP P):=by
 refine⟨fun h hx hS=>?_,fun h h1 h2=>?_⟩
 ·obtain⟨A,c,e,h⟩:=h;exact⟨A,c,e,h.frm hP hx hS⟩
 ·obtain⟨A,c,e,h⟩:=h;exact⟨A,c,e,h.more hP h1 h2⟩
theorem Lst.len (h:Lst P W lo hi A xs):xs.length<=9223372036854775807:=by
 obtain⟨a,b,_⟩:=h;exact b.len
theorem Lst.get (h:Lst P W lo hi A xs)(hk:k<xs.length):∃ b o r x,A=some ⟨b,o,none⟩∧lo<=b∧b<hi∧Hid (xs[k]?=some x)∧W.cell? ⟨b,o+k,none⟩=some r∧P W lo hi r x:=by
 obtain⟨a,g,m⟩:=h;have q:=g.length;rw [Nat.mul_one] at q;obtain⟨f,e,n,p,i⟩:=g.at_ hk;have d:a[0]?=some (a[0]' oM):=dD _;have c:a[k]?=some (a[k]' oM):=dD _;have l:=zcU (i 0 _ d);have j:=i k _ c;rw [l,zX] at j;exact⟨f.block,f.off,_,_,by rw [e,← l],n,p,dD hk,j,m k _ _ c (dD hk)⟩
theorem Lst.get2 {x:α}(h:Lst P W lo hi (some ⟨b,o,none⟩) xs)(hx:xs[k]?=some x):∃ r,W.cell? ⟨b,o+k,none⟩=some r∧P W lo hi r x:=by
 obtain⟨f,g,r,y,e,_,_,a,c,d⟩:=h.get (List.getElem?_eq_some_iff.1 hx).1;injection e with e
 injection e with e1 e2
 subst e1;subst e2;rw [hx] at a;have:=Option.some.inj a.out;subst this;exact⟨r,c,d⟩
end
theorem Lst.bh (h:Reads W lo hi 1 A xs.length (zae xs)):Lst zbs W lo hi A xs:=⟨zae xs,h,fun i r x hr hx=>by
 simp only [zae,dS,hx,Option.map_some] at hr
 exact (Option.some.inj hr).symm⟩
theorem Lst.ai (h:W.ownsRow base 3 1 (.slice A xs.length c) xs.length (zae xs)):Lst zbs W base W.heap.size A xs:=Lst.bh (eE h)
theorem Lst.num (h:Lst zbs W lo hi A xs)(hk:k<xs.length):∃ b o x,A=some ⟨b,o,none⟩∧lo<=b∧b<hi∧Hid (xs[k]?=some x)∧W.cell? ⟨b,o+k,none⟩=some (.int .i64 (x:Nat)):=by
 obtain⟨b,o,r,x,e,a,c,d,f,g⟩:=h.get hk;exact⟨b,o,x,e,a,c,d,by rw [f,g]⟩
theorem Lst.num2 (h:Lst zbs W lo hi (some ⟨b,o,none⟩) xs)(hx:xs[k]?=some x):W.cell? ⟨b,o+k,none⟩=some (.int .i64 (x:Nat)):=by
 obtain⟨r,a,c⟩:=h.get2 hx;rw [a,c]
def Grl {α:Type} (P:Lay α) (W:World) (base:Nat) (e:TypeId) (v:Value) (xs:List α):Prop:=
 ∃ rows:List Value,W.ownsRow base e 1 v xs.length rows∧∀ (i:Nat) (r:Value) (x:α),rows[i]?=some r->xs[i]?=some x->∃ lo hi,base<=lo∧hi<=W.heap.size∧P W lo hi r x∧∀ b,v.ownBlock=some b->b<lo∨hi<=b
section
variable {α:Type} {P:Lay α} {W W':World} {base:Nat} {e:TypeId} {v:Value} {xs:List α}
theorem Grl.form (h:Grl P W base e v xs):∃ A c,v=.slice A xs.length c:=by
 obtain⟨a,b,_⟩:=h;exact zg b
theorem Grl.lst (hP:Lay.Ok P)  (h:Grl P W base e (.slice A n c) xs):Lst P W base W.heap.size A xs:=by
 obtain⟨a,b,d⟩:=h;have l:n=xs.length:=by
  obtain⟨m,o,k⟩:=zg b;injection k
 subst l;refine⟨a,eE b,fun i r x hr hx=>?_⟩;obtain⟨q,p,f,g,j,_⟩:=d i r x hr hx;exact hP.more j f g
theorem Grl.push (hP:Lay.Ok P)   {v':Value} {x:α} (h2:∀ (i:Nat) (r:Value) (x:α),rows[i]?=some r->xs[i]?=some x->∃ lo hi,base<=lo∧hi<=W.heap.size∧P W lo hi r x∧∀ b,v.ownBlock=some b->b<lo∨hi<=b)(h1:W.ownsRow base e 1 v xs.length rows)
  (hx:Ext W W1) (hr:P W1 lo hi r x) (hlo:W.heap.size<=lo) (hb:base<=lo) (hhi:hi<=W1.heap.size) (zje:W'.ownsRow base e 1 v' (xs.length+1) (rows++[r])) (hg:W1.grownBy W' v.ownBlock) (hat:v'.ownBlock=v.ownBlock∨v'.ownBlock=some (W1.heap.size+1)):Grl P W' base e v' (xs++[x]):=by
 have g:rows.length=xs.length:=by have:=zeM h1;omega
 have c:Frm (fun k=>v.ownBlock=some k) W1 W':=Frm.ab hg;refine⟨rows++[r],by rw [dN,dZ];exact zje,fun i s y hs hy=>?_⟩;rcases eU i rows.length with a | a | a
 ·rw [dJ a] at hs;rw [dJ oM] at hy;obtain⟨j,f,m,n,o,l⟩:=h2 i s y hs hy;refine⟨j,f,m,dL n (dL hx.size c.size),hP.frm (hP.frm o hx (fun _ _ _ h=>h)) c (fun k hk1 hk2 hk=>by have:=l k hk;omega),fun b hb'=>?_⟩;rcases hat with d|d
  ·rw [d] at hb';exact l b hb'
  ·rw [d] at hb';have:=Option.some.inj hb';have:=hx.size;omega
 ·rw [dP oM,a,fC] at hs;rw [dP oM,a,g,fC] at hy;simp at hs hy;subst hs;subst hy;refine⟨lo,hi,hb,dL hhi c.size,hP.frm hr c (fun k hk1 hk2 hk=>by have:=(h1.lt k hk).2;omega),fun b hb'=>?_⟩;rcases hat with d|d
  ·rw [d] at hb';have:=(h1.lt b hb').2;omega
  ·rw [d] at hb';have:=Option.some.inj hb';omega
 ·rw [eC (by simp;omega)] at hs;cases hs
theorem Grl.push2 (hP:Lay.Ok P)    {x:α} (h2:∀ (i:Nat) (r:Value) (x:α),rows[i]?=some r->xs[i]?=some x->∃ lo hi,base<=lo∧hi<=W.heap.size∧P W lo hi r x∧∀ b,v.ownBlock=some b->b<lo∨hi<=b)(h1:W.ownsRow base e 1 v xs.length rows)
  (hx:Ext W W1) (hr:P W1 lo hi r x) (hlo:W.heap.size<=lo) (hb:base<=lo) (hhi:hi<=W1.heap.size) (zje:W'.ownsRow base e 1 (.slice (some g) (xs.length+1) cap) (xs.length+1) (rows++[r])) (hg:W1.grownBy W' v.ownBlock) (hat:v.ownBlock=some g∨g=W1.heap.size+1):Grl P W' base e (.slice (some g) (xs.length+1) cap) (xs++[x]):=
 Grl.push hP h2 h1 hx hr hlo hb hhi zje hg (by
  rcases hat with h|h
  ·exact Or.inl h.symm
  ·exact Or.inr (by rw [h];rfl))
end
theorem info_pmov:(Tryz.prog.info? 147).map (fun i=>(i.zero,i.size,i.bytes))=some (some (.pointer none),1,8):=kM
def ptrs (bs:List Nat):List Value:=bs.map fun b=>.pointer (some ⟨b,0,none⟩)
def MovL (w:World) (bs:List Nat) (ss:List Sys):Prop:=bs.length=ss.length∧∀ (i b:Nat) (s:Sys),bs[i]?=some b->ss[i]?=some s->MovB w b s.edges
theorem MovL.ext (h:MovL w bs ss)(hx:Ext w w'):MovL w' bs ss:=⟨h.1,fun i b s hb hs=>(h.2 i b s hb hs).ext hx⟩
theorem MovL.snoc (h:MovL w bs ss)(hx:Ext w w')(hb:MovB w' b s.edges):MovL w' (bs++[b]) (ss++[s]):=by
 have c:=h.1;refine⟨by simp [c],fun i b' s' hb' hs'=>?_⟩;rcases eU i bs.length with a|a|a
 ·rw [dJ a] at hb';rw [dJ oM] at hs';exact (h.2 i b' s' hb' hs').ext hx
 ·rw [dP oM,a,fC] at hb';rw [dP oM,a,c,fC] at hs';simp at hb' hs';subst hb';subst hs';exact hb
 ·rw [eC (by simp;omega)] at hb';cases hb'
theorem MovL.frm (h:MovL w bs ss)(hx:Frm S w w')(hS:∀ (b:Nat) (cs:Array Value),Blk w b 249 cs->¬ S b):MovL w' bs ss:=
 ⟨h.1,fun i b s hb hs=>by
  obtain⟨cs,hB,hc⟩:=h.2 i b s hb hs
  exact⟨cs,hB.frm hx (hS b cs hB),hc⟩⟩
structure PtAt (w:World) (lo hi:Nat) (A:Option Addr) (k lo' hi':Nat) (M:Option Addr) (ss:List Sys):Prop where
 sys:zeB w lo hi A k ss
 mov:∃ bs,Reads w lo' hi' 1 M k (ptrs bs)∧MovL w bs ss
theorem PtAt.ext {M:Option Addr} (h:PtAt w lo hi A k lo' hi' M ss)(hx:Ext w w'):PtAt w' lo hi A k lo' hi' M ss:=by
 obtain⟨a,c,b⟩:=h.mov;exact⟨h.sys.ext hx,a,c.ext hx,b.ext hx⟩
structure Grp (w0 W:World) (G:Nat) (a v:Value) (bs:List Nat) (ss:List Sys):Prop where
 blk:Blk W G 108 #[a,v]
 own:W.ownsRow w0.heap.size 147 1 v bs.length (ptrs bs)
 mov:MovL W bs ss
 ext:Ext w0 W
 hG:w0.heap.size<=G
theorem Grp.ar {G:Nat} {a:Value}  (h:Grp w0 W G a v bs ss)(hb:Ext W W'):Grp w0 W' G a v bs ss:=⟨h.blk.ext hb,zh h.own hb,h.mov.ext hb,h.ext.trans hb,h.hG⟩
theorem zdZ {size G:Nat}  {xs:List Value} (h:w.ownsRow base e size v n xs)(hB:Blk w G t cs)(hne:e≠t) (hv:v.ownBlock=some b):b≠G:=by
 rintro rfl;rcases h.2 with ⟨rfl,_⟩|⟨g,a,c,rfl,_,f,_⟩
 ·simp [Value.ownBlock] at hv
 ·have d:g=b:=by simpa [Value.ownBlock] using hv
  subst d;unfold Blk at hB;rw [f] at hB;injection hB with hB
  injection hB with _ ht
  exact absurd ht hne
theorem Grp.push {G:Nat} {a:Value}    (h:Grp w0 W G a v bs ss)(hb:MovB W b s.edges)
  (zje:W'.ownsRow w0.heap.size 147 1 (.slice (some g) (bs.length+1) cap) (bs.length+1) (ptrs bs++[.pointer (some b)]))
  (hg:W.grownBy W' v.ownBlock) (hat:v.ownBlock=some g∨g=W.heap.size+1) :
  Hid (W'.cell? ⟨G,1,none⟩=some v)∧W'.frozen? ⟨G,1,none⟩=false∧Grp w0 (W'.setCell ⟨G,1,none⟩ (.slice (some g) (bs.length+1) cap)) G a (.slice (some g) (bs.length+1) cap) (bs++[b]) (ss++[s]):=by
 have d:Blk W' G 108 #[a,v]:=(hg.block G h.blk.lt (fun e=>zdZ h.own h.blk dM e.symm rfl)).trans h.blk;have m:g≠G:=by
  rcases hat with l|l
  ·exact zdZ h.own h.blk dM l
  ·have:=h.blk.lt;omega
 have n:Ext w0 W':=h.ext.grown hg (fun k hk=>(h.own.lt k hk).1);have f:=dH W' G 1 (.slice (some g) (bs.length+1) cap);have i:Frm (fun k=>v.ownBlock=some k) W W':=Frm.ab hg;have j:MovL W' (bs++[b]) (ss++[s]):=(h.mov.snoc (dB W) hb).frm i (fun c cs hc hS=>zdZ h.own hc dM hS rfl);refine⟨d.cell 1,d.frozen 1,⟨by simpa using d.ae 1 _,?_,j.frm f (fun c cs hc hS=>?_),n.setCell (p:=⟨G,1,none⟩) h.hG _,h.hG⟩⟩
 ·rw [dN,dZ,show ptrs (bs++[b])=ptrs bs++[.pointer (some b)] by simp [ptrs]];exact zf zje f (fun c hv hS=>by
   have:g=c:=by simpa [Value.ownBlock] using hv
   omega)
 ·subst hS;unfold Blk at hc d;rw [hc] at d;injection d with d
  injection d with _ ht
  exact absurd ht dM
theorem zfk (h:zeB w lo hi A n ss)(hf:∀ s∈ss,Few 16 s.edges)(hn4:n<=1000) :
  Calls Tryz.prog 66 #[.slice A n c] w fun e w'=>∃ M d,e=.returned (.agg #[.slice A n c,.slice M n d])∧PtAt w' lo hi A n w.heap.size w'.heap.size M ss∧Ext w w':=by
 have HS:=za (fun W (hW:Ext w W)=>h.ext hW);have hL:=za h.1;have Hf:=za hf;have af:=h.len;clear hf
 go_enter Tryz.func66,Tryz.ntmps66
 obtain⟨l,bG⟩:=zM (dB ((w.alloc (.cells #[(),()] 108)).alloc (.cells #[.slice A n c,()] 108)));have E:Ext w ((w.alloc (.cells #[(),()] 108)).alloc (.cells #[.slice A n c,()] 108)):=((dB w).alloc _).alloc _;go_upto_region 2 with fail
 have ai:w.heap.size<=(w.alloc (.cells #[(),()] 108)).heap.size:=sM;have D:(w.alloc (.cells #[(),()] 108)).heap.size=w.heap.size+1:=sM;have j:Grp (w.alloc (.cells #[(),()] 108)) ((w.alloc (.cells #[(),()] 108)).alloc (.cells #[.slice A n c,()] 108)) (w.heap.size+1) (.slice A n c) (.slice none 0 0) [] []:=
  ⟨bG,World.ownsRow_nil _ _ _ _,⟨rfl,fun i b s hb=>by simp at hb⟩,(dB _).alloc _,by rw [D];exact dE _⟩
 clear bG;generalize (w.alloc _).alloc _=w2 at *;generalize w.alloc _=w1 at *;go_wp2_with fail
 go_loopw [10] (fun i wr=>∃ (k:Nat) (v:Value) (t:List Nat),k<=n∧i=.int .i64 k∧Grp w1 wr (w.heap.size+1) (.slice A n c) v t (ss.take k)∧Hid (t.length=k)∧Blk wr w.heap.size 108 #[(),()]∧Ext w wr) (fun i _=>n - (intOf i).toNat)
 case atStart=>exact⟨0,_,[],dG _,rfl,by simpa using j,za rfl,l,E⟩
 case round =>
  clear j l E w2;obtain⟨k,v,t,hk,rfl,j,r,l,T⟩:=hrel
  by_cases hlt:k<n
  ·obtain⟨g,o,s,B,m,c',rfl,_,_,hs,c0,c1,c2,S⟩:=(HS.out wr T).sys hlt;have Q:=za (Hf.out s (dC hs.out));have H:=za (show ss.take (k+1)=ss.take k++[s] by rw [dO,hs.out];rfl);have u:=(dB wr).alloc (.cells #[s.al,s.st,.slice B m c'] 38);have f:=j.ar u;have U:=T.trans u;have x:=l.ext u;have C:=S.ext u;clear j;go_upto_region 5 with fail
   clear c0 c1 c2;generalize U0:wr.alloc _=w3 at *;have O:=Ext.bl_ U0;clear U0;have c5:=O.cells;have cG:=fun W (hW:Ext w3 W)=>(f.blk.ext hW).cell;have F:=dB w3;refine uR (fun X=>Ext w3 X) [5,7] (zw.of [0,1,2,3,4,5,6,7]) ?_;refine uQ ?_;refine zd fun K hK=>?_;go_simp;refine (zdH (C.ext F.drew) Q.out).mono ?_;rintro e w4 ⟨b,rfl,av,R,Z⟩;have a:=F.drew.trans Z;refine hK.out _ _ a ?_;refine pT ?_;refine uQ ?_;refine zd fun K hK=>?_;go_simp;refine hK.out _ _ (a.alloc _) ?_;refine pT ?_;refine zb fun K hK=>?_;refine zaE w1 w4 _ _ _ rfl 147 _ 1 8 Tryz.underlying106 info_pmov rfl dM v t.length (ptrs t) _ _ rfl rfl (f.ext.trans a).size (zh f.own a) rfl (by simp [Value.oneCell']) (by unfold maxLen;have:=r.out;omega) (oH r.out) ?_;intro g5 cap5 w5 zjq hg5 hat5 hlt5;refine hK.out _ _ ?_;refine pT ?_;refine uQ ?_;obtain⟨p1,p2,p3⟩:=(f.ar a).push (s:=s) R (W':=w5) zjq hg5 hat5;have ay:=p1.out;have I:Blk w5 w.heap.size 108 #[.slice none 0 0,.slice none 0 0]:=(hg5.block _ (x.ext a).lt (fun e=>zdZ (zh f.own a) (x.ext a) dM e.symm rfl)).trans (x.ext a);have V:Ext w w5:=(U.trans a).grown hg5 (fun q hq=>by have:=(zh f.own a).lt q hq;omega);have J:=I.far (p:=⟨w.heap.size+1,1,none⟩) sM (.slice (some g5) (t.length+1) cap5);have Y:=V.setCell (p:=⟨w.heap.size+1,1,none⟩) sM (.slice (some g5) (t.length+1) cap5);refine zb fun K hK=>?_;go_simp;refine hK.out _ _ ?_;refine ze ?_;go_wp2_with fail
   go_roundw
   case rel=>exact⟨k+1,_,t++[b],oM,gM,by rw [H.out];exact p3,za (by rw [dN,r.out];rfl),J,Y⟩
   case measure=>simp [intOf];omega
  ·obtain rfl:n=k:=oM;obtain⟨M,d,rfl⟩:∃ M d,v=.slice M n d:=by
    have z:=j.own;rw [r.out] at z;exact zg z
   have cG:=j.blk.cell;have cZ:=l.cell;have fZ:=l.frozen;have y:Frm (fun k=>k=w.heap.size) wr ((wr.setCell w.heap.size (.slice A n c)).setCell ⟨w.heap.size,1,none⟩ (.slice M n d)):=(dH wr _ 0 _).trans (dH _ _ 1 _);have L:Blk ((wr.setCell w.heap.size (.slice A n c)).setCell ⟨w.heap.size,1,none⟩ (.slice M n d)) w.heap.size 108 #[.slice A n c,.slice M n d]:=by simpa using (l.ae 0 (.slice A n c)).ae 1 (.slice M n d)
   have G:=T.frm y (fun k hk e=>oM);have ab:=za (show ∃ M' d',Ending.returned (.agg #[.slice A n c,.slice M n d])=.returned (.agg #[.slice A n c,.slice M' n d'])∧PtAt ((wr.setCell w.heap.size (.slice A n c)).setCell ⟨w.heap.size,1,none⟩ (.slice M n d)) lo hi A n w.heap.size ((wr.setCell w.heap.size (.slice A n c)).setCell ⟨w.heap.size,1,none⟩ (.slice M n d)).heap.size M' ss∧Ext w ((wr.setCell w.heap.size (.slice A n c)).setCell ⟨w.heap.size,1,none⟩ (.slice M n d)) from by
    refine⟨M,d,rfl,⟨HS.out _ G,t,?_,?_⟩,G⟩
    ·have z:=zbq j.own y (fun b h1 e=>oM);rw [r.out] at z;exact (eE z).more oM (dE _)
    ·have hm:=j.mov;rw [dK (oH hL.out)] at hm;exact hm.frm y (fun b cs hc hS=>by
      subst hS;unfold Blk at hc l;rw [hc] at l;injection l with l
      injection l with _ ht
      exact absurd ht dM))
   go_wp2_with fail
   generalize (wr.setCell w.heap.size (.slice A n c)).setCell ⟨w.heap.size,1,none⟩ (.slice M n d)=wf at *;have cf:=L.cell;exact bodyPost_ret (v:=.agg #[.slice A n c,.slice M n d]) (by simp [results,Tryz.results66,go_sem,cf]) rfl ab.out
theorem zdJ (l:List Nat) (x:Nat):zae (l++[x])=zae l++[.int .i64 (x:Nat)]:=by simp [zae]
theorem spec_l4Sizes {us:List Aut} (h:zeY w PA pn AA an ss us)(hok:zdk ss us) :
  Calls Tryz.prog 215 #[.agg #[.slice PA pn pc,.slice AA an ac,sv,L,K,G]] w (zbM w (szs ss us)):=by
 have M:=za (fun W (hW:Ext w W)=>h.ext hW);have z:Hid (pn=ss.length):=by obtain⟨_,_,E⟩:=h.sys;exact E.1
 have x:Hid (an=us.length):=by obtain⟨_,_,E⟩:=h.aut;exact E.1
 have ae:pn<=3:=by rw [z.out];exact hok.few
 have Y:an<=2:=by rw [x.out];exact hok.few'
 have u:=za hok;clear h hok
 go_enter Tryz.func215,Tryz.ntmps215
 have J:Ext w (w.alloc (.cells #[.slice PA pn pc,.slice AA an ac,sv,L,K,G] 185)):=(dB w).alloc _;have F:=dX w 185 #[.slice PA pn pc,.slice AA an ac,sv,L,K,G];go_wp2
 go_loopw [3,4] (fun v i wr=>∃ k:Nat,k<=pn∧i=.int .i64 k∧wr.ownsRow w.heap.size 3 1 v k (zae ((ss.take k).map fun s=>s.st.toNat))∧Ext w wr∧Blk wr w.heap.size 185 #[.slice PA pn pc,.slice AA an ac,sv,L,K,G])
  (fun _ i _=>pn - (intOf i).toNat)
 case atStart=>exact⟨0,dG _,rfl,(by have X:=World.ownsRow_lit (base:=w.heap.size) (e:=3) (size:=1) (w.alloc (.cells #[.slice PA pn pc,.slice AA an ac,sv,L,K,G] 185)) #[] 0 sM lM rfl;simpa [zae] using X),J.alloc _,F.ext ((dB _).alloc _)⟩
 case round =>
  obtain⟨k,hk,rfl,j,l,g⟩:=hrel;have O:=g.cell
  by_cases hlt:k<pn
  ·obtain⟨lo,hi,r⟩:=(M.out wr l).sys;obtain⟨b,o,s,B,q,d,rfl,ad,Z,C,U,Q,V,I⟩:=r.sys hlt;have D:=zbZ (u.out.sys s (dC C.out));obtain⟨p,T⟩:∃ p:Nat,Hid (s.st=p):=⟨s.st.toNat,by have:=D.1;unfold Hid;omega⟩;rw [T.out] at Q;have t:=za (show (ss.take (k+1)).map (fun s=>s.st.toNat)=(ss.take k).map (fun s=>s.st.toNat)++[p] by rw [dO,C.out];simp [T.out]);clear D r I;go_wp2_with (at_builtin;refine zU w wr rfl _ _ _ rfl 3 _ 1 8 Tryz.underlying110 zS rfl dM u3 _ _ _ _ rfl rfl l j rfl (zaL _) lM oM ?_;intro v' w1 hext1 zjn hg1 hat1)
   have n:Blk w1 w.heap.size 185 #[.slice (some ⟨b,o,none⟩) pn pc,.slice AA an ac,sv,.int .i64 L,.int .i64 K,.int .i64 G]:=(hg1.block _ g.lt (fun e=>zdZ j g dM e.symm rfl)).trans g;go_roundw
   case rel=>exact⟨k+1,oM,gM,by rw [t.out,zdJ];exact zjn,hext1,n⟩
   case measure=>simp [intOf];omega
  ·obtain rfl:pn=k:=oM;have f:wr.ownsRow w.heap.size 3 1 u3 pn (zae (ss.map fun s=>s.st.toNat)):=by rw [dK (oH z.out)] at j;exact j
   clear j;go_wp2
   go_loopw [3,5] (fun v i wr=>∃ k:Nat,k<=an∧i=.int .i64 k∧wr.ownsRow w.heap.size 3 1 v (pn+k) (zae (ss.map (fun s=>s.st.toNat)++(us.take k).map fun a=>a.next.length))∧Ext w wr∧Blk wr w.heap.size 185 #[.slice PA pn pc,.slice AA an ac,sv,L,K,G])
    (fun _ i _=>an - (intOf i).toNat)
   case atStart=>exact⟨0,dG _,rfl,by simpa using f,l,g⟩
   case round =>
    clear f l g O;obtain⟨k,hk,rfl,j,l,g⟩:=hrel;have O:=g.cell
    by_cases hlt:k<an
    ·obtain⟨lo,hi,r⟩:=(M.out wr l).aut;obtain⟨b,o,a,B,m,c,B',m',c',rfl,C,U,Q,V,y⟩:=r.aut hlt;have R:=za y.n1;have S:m<=12:=by have:=(zl (u.out.aut a (dC C.out))).2.1;rw [← R.out] at this;omega
     have t:=za (show ss.map (fun s=>s.st.toNat)++(us.take (k+1)).map (fun a=>a.next.length)=(ss.map (fun s=>s.st.toNat)++(us.take k).map (fun a=>a.next.length))++[m] by rw [dO,C.out];simp [R.out]);clear r y;go_wp2_with (at_builtin;refine zU w wr rfl _ _ _ rfl 3 _ 1 8 Tryz.underlying110 zS rfl dM u3 _ _ _ _ rfl rfl l j rfl (zaL _) lM oM ?_;intro v' w1 hext1 zjn hg1 hat1)
     have n:Blk w1 w.heap.size 185 #[.slice PA pn pc,.slice (some ⟨b,o,none⟩) an ac,sv,.int .i64 L,.int .i64 K,.int .i64 G]:=(hg1.block _ g.lt (fun e=>zdZ j g dM e.symm rfl)).trans g;go_roundw
     case rel=>exact⟨k+1,oM,gM,by rw [t.out,zdJ];exact zjn,hext1,n⟩
     case measure=>simp [intOf];omega
    ·obtain rfl:an=k:=oM;have f:wr.ownsRow w.heap.size 3 1 u3 (pn+an) (zae (szs ss us)):=by rw [dK (oH x.out)] at j;exact j
     have H:pn+an=(szs ss us).length:=by have:=zeM f;simp [zae] at this;omega
     rw [H] at f;obtain⟨A5,c5,rfl⟩:=zg f;clear j;go_wp2;go_ret;exact⟨_,_,rfl,f,l⟩
theorem ziU (h:Lst zbs w lo hi A sz)(h':Lst zbs w lo' hi' B st)(hl:sz.length=st.length)(hb:∀ k,k<=sz.length->encF 0 (sz.take k) (st.take k)<=1048576)(hz:∀ x∈sz,x<=16)(hs:∀ x∈st,x<=16) :
  Calls Tryz.prog 220 #[.slice A sz.length c,.slice B st.length d] w fun e w'=>e=.returned (.int .i64 (encF 0 sz st:Nat))∧Ext w w':=by
 have L:=za (fun W (hW:Ext w W)=>h.ext zbs.ok hW);have M:=za (fun W (hW:Ext w W)=>h'.ext zbs.ok hW);have O:=za hb;have R:=za hz;have Q:=za hs;have m:=h.len;have T:∃ n:Nat,Hid (sz.length=n)∧Hid (st.length=n):=⟨sz.length,rfl,hl.symm⟩;obtain⟨n,a,g⟩:=T;rw [a.out] at m;rw [a.out,g.out];clear hb hz hs hl h h'
 go_enter Tryz.func220,Tryz.ntmps220
 go_wp2
 go_loopw [5,6] (fun v i wr=>∃ k y:Nat,k<=n∧i=.int .i64 k∧v=.int .i64 y∧Hid (y=encF 0 (sz.take k) (st.take k))∧y<=1048576∧Ext w wr) (fun _ i _=>n - (intOf i).toNat)
 case atStart=>exact⟨0,0,dG _,rfl,rfl,rfl,oM,dB _⟩
 case round =>
  obtain⟨k,y,hk,rfl,rfl,H,V,r⟩:=hrel
  by_cases hlt:k<n
  ·obtain⟨b,o,s,rfl,_,_,hs,D⟩:=(L.out wr r).num (show k<sz.length by rw [a.out];exact hlt);obtain⟨S,X,t,rfl,_,_,F,l⟩:=(M.out wr r).num (show k<st.length by rw [g.out];exact hlt);have E:=R.out s (dC hs.out);have G:=Q.out t (dC F.out);have Y:∀ W,Ext wr W->W.cell? ⟨b,o+k,none⟩=some (.int .i64 (s:Nat)):=fun W hW=>hW.aa D;have Z:∀ W,Ext wr W->W.cell? ⟨S,X+k,none⟩=some (.int .i64 (t:Nat)):=fun W hW=>hW.aa l;have j:=za (show encF 0 (sz.take (k+1)) (st.take (k+1))=y*s+t by
    have u:∀ (k acc:Nat) (sz st:List Nat),sz[k]?=some s->st[k]?=some t->encF acc (sz.take (k+1)) (st.take (k+1))=encF acc (sz.take k) (st.take k)*s+t:=by
     intro k
     induction k with
     |zero =>
      intro acc sz st h1 h2;cases sz<;>cases st<;>simp at h1 h2
      subst h1;subst h2;simp [encF]
     |succ k ih =>
      intro acc sz st h1 h2;cases sz<;>cases st<;>simp at h1 h2
      simpa [encF] using ih _ _ _ h1 h2
    rw [u k 0 sz st hs.out F.out,H.out])
   have f:=O.out (k+1) (by rw [a.out];omega);rw [j.out] at f;have p:y*s<=1048576:=oM;obtain⟨J,q⟩:∃ z:Nat,Hid (y*s=z):=⟨_,rfl⟩;have I:(y:Int)*(s:Int)=(J:Int):=by rw [← q.out];exact (fJ y s).symm
   rw [q.out] at p f j;have U:=dB wr;clear D l;go_wp2_with fail
   go_quiet (fail)
   go_wp2_with fail
   go_roundw
   case rel=>exact⟨k+1,J+t,oM,gM,gM,by unfold Hid;rw [j.out],f,r.drewN _⟩
   case measure=>simp [intOf];omega
  ·obtain rfl:n=k:=oM;have C:=za (show y=encF 0 sz st by rw [H.out,dK (by rw [a.out];exact dE _),dK (by rw [g.out];exact dE _)]);go_wp2;go_ret;exact⟨zD (by rw [C.out]),r⟩
def decV (sz:List Nat) (x k:Nat):List Nat:=dT k 0++dec (sz.drop k) x
theorem decV_set {s:Nat}(h:sz[k]?=some s):(zae (decV sz x (k+1))).set k (.int .i64 ((x / zax (sz.drop (k+1)) % s:Nat):Int))=zae (decV sz x k):=by
 have a:sz.drop k=s :: sz.drop (k+1):=by
  obtain⟨b,rfl⟩:=List.getElem?_eq_some_iff.1 h;exact fN b
 unfold decV zae;rw [a,dec,List.replicate_succ',List.append_assoc,eK,eK,List.set_append_right _ _ sM];simp
theorem zfz {y0:Nat}   (h:Lst zbs w lo hi A sz)(hn:sz.length=n)(hn5:n<=1000)(hz:∀ x∈sz,1<=x∧x<=16)(hy:y0<=4611686018427387904) :
  Calls Tryz.prog 218 #[.slice A n c,y0] w (zbM w (dec sz y0)):=by
 have F:=za (fun W (hW:Ext w W)=>h.ext zbs.ok hW);have H:=za hz;have d:=za hn;clear hz h hn
 go_enter Tryz.func218,Tryz.ntmps218
 go_wp2_with (at_make;refine zbm w w rfl _ _ 110 rfl 3 _ 1 8 Tryz.underlying110 zS _ _ n rfl rfl (dB _) oM lM ?_;intro w3 hw3 zjp hx23 hsz3)
 generalize hg:w.heap.size=g at *;have G:=za hg;clear hg hx23 hsz3
 go_loopw [1,6] (fun v i wr=>∃ k y:Nat,k<=n∧i=.int .i64 ((k:Int) - 1)∧v=.int .i64 y∧y<=4611686018427387904∧Hid (y=y0 / zax (sz.drop k))∧wr.ownsRow g 3 1 (.slice (some g) n n) n (zae (decV sz y0 k))∧Ext w wr) (fun _ i _=>(intOf i+1).toNat)
 case atStart=>exact⟨n,y0,dE _,gM,rfl,hy,by unfold Hid;rw [gD (oH d.out)];simp [zax],by rw [decV,gD (oH d.out)];simpa [zae,dec,Value.cells,toList_madeCells_one] using zjp,hw3⟩
 case round =>
  clear zjp hw3;obtain⟨k,y,X,rfl,rfl,D,f,a,t⟩:=hrel
  by_cases hlt:0<k
  ·obtain⟨j,rfl⟩:∃ j,k=j+1:=⟨k - 1,oM⟩;obtain⟨b,o,s,rfl,_,_,r,V⟩:=(F.out wr t).num (show j<sz.length by have:=d.out;omega);obtain⟨Z,Q⟩:=H.out s (dC r.out);obtain⟨Y,T⟩:=zaM a j oM;have S:=a.frozenAt j;have M:(y:Int) % (s:Int)=((y % s:Nat):Int):=(Int.natCast_emod y s).symm;have L:(y:Int) / (s:Int)=((y / s:Nat):Int):=(Int.natCast_ediv y s).symm;have q:=a.stored j (.int .i64 ((y % s:Nat):Int));rw [f.out,decV_set r.out,← f.out] at q;have u:=za (show y / s=y0 / zax (sz.drop j) by
    rw [f.out,Nat.div_div_eq_div_mul,fN (show j<sz.length by have:=d.out;omega),zax];have:sz[j]'(oH d.out)=s:=by
     obtain⟨U,I⟩:=List.getElem?_eq_some_iff.1 r.out;exact I
    rw [this,Nat.mul_comm])
   have B:y / s<=4611686018427387904:=dL (Nat.div_le_self _ _) D;have O:¬ (s=0):=oM;have l:w.heap.size<=g:=oH G.out;have z:((j+1:Nat):Int) - 1=(j:Int):=oM;rw [z];have J:=(F.out _ (t.setCell (p:=⟨g,j,none⟩) l (.int .i64 ((y % s:Nat):Int)))).num2 r.out;generalize y % s=ym at *;generalize y / s=R at *;go_wp2;go_roundw
   case rel=>exact⟨j,R,oM,rfl,rfl,B,u,q.1,t.setCell (p:=⟨g,j,none⟩) l _⟩
   case measure=>simp [intOf]
  ·obtain rfl:k=0:=oM;have m:=zcX sz y0;have E:=za (show wr.ownsRow w.heap.size 3 1 (.slice (some g) (dec sz y0).length n) (dec sz y0).length (zae (dec sz y0)) by
    rw [m,d.out,G.out];simpa [decV] using a)
   have C:(dec sz y0).length=n:=oH d.out;go_wp2;go_ret;exact⟨some ⟨g,0,none⟩,n,by rw [C];rfl,E.out,t⟩
theorem spec_l4In (h:Lst zbs w lo hi A xs)(hn:xs.length=n) :
  Calls Tryz.prog 278 #[.slice A n c,x] w fun e w'=>e=.returned (.bool (decide (x∈xs)))∧w=w':=by
 have l:=za hn;have a:=h.len;rw [hn] at a;clear hn
 go_enter Tryz.func278,Tryz.ntmps278
 go_wp2
 go_loop [5] (fun i=>∃ k:Nat,k<=n∧i=.int .i64 k∧Hid (∀ (j z:Nat),j<k->xs[j]?=some z->z≠x)) (fun i=>n - (intOf i).toNat)
 case atStart=>exact⟨0,dG _,rfl,(show Hid _ from fun j z f=>oM)⟩
 case round =>
  obtain⟨k,r,rfl,d⟩:=hrel
  by_cases hlt:k<n
  ·obtain⟨b,o,z,rfl,_,_,m,q⟩:=h.num (show k<xs.length by rw [l.out];exact hlt)
   by_cases hzx:z=x
   ·subst hzx;have g:=za (dC m.out);go_wp2;go_ret;exact⟨zj (by rw [decide_eq_true g.out]),rfl⟩
   ·have p:((z:Int)==(x:Int))=false:=by simp;omega
    go_wp2
    go_round
    case rel=>exact⟨k+1,oM,gM,(show Hid _ from fun j y f hy=>by
     by_cases e:j=k
     ·subst e;have:=m.out;rw [hy] at this;injection this with this
      subst this;exact hzx
     ·exact d.out j y oM hy)⟩
    case measure=>simp [intOf];omega
  ·obtain rfl:n=k:=oM;have g:=za (show ¬ x∈xs from fun hx=>by
    obtain⟨j,f⟩:=eB hx;exact d.out j x (by have:=(List.getElem?_eq_some_iff.1 f).1;rw [l.out] at this;exact this) f rfl)
   go_wp2;go_ret;exact⟨zj (by rw [decide_eq_false g.out]),rfl⟩
def zaC (a:Aut) (q:Nat):Bool:=a.acc.getD q false
theorem zhg {us:List Aut}   {sn hi:Nat}  {a:Aut}(h:zeY w PA pn AA an ss us)(h':Lst zbs w lo hi SA st)(hsn:st.length=sn)(hi:us[i]?=some a)(hq:st[pn+i]?=some q)(hqa:q<a.acc.length) :
  Calls Tryz.prog 276 #[.agg #[.slice PA pn pc,.slice AA an ac,sv,L,K,G],.slice SA sn sc,i] w fun e w'=>e=.returned (.bool (zaC a q))∧Ext w w':=by
 have s:i<an:=by obtain⟨_,_,p⟩:=h.aut;rw [p.1];exact (List.getElem?_eq_some_iff.1 hi).1
 have v:pn+i<sn:=by rw [← hsn];exact (List.getElem?_eq_some_iff.1 hq).1
 obtain⟨ab,V,g⟩:=h.aut;have M:=g.len;have t:pn<=9223372036854775807:=by obtain⟨_,_,p⟩:=h.sys;exact p.len
 have j:=h'.len;rw [hsn] at j;obtain⟨b,o,Q,B,m,c,B',y,S,rfl,k,T,U,I,d⟩:=g.aut s;obtain rfl:a=Q:=by have:=k.out;rw [hi] at this;exact Option.some.inj this
 obtain⟨R,os,q',rfl,_,_,n,J⟩:=h'.num (show pn+i<st.length by rw [hsn];exact v);obtain rfl:q=q':=by have:=n.out;rw [hq] at this;exact Option.some.inj this
 have u:q<y:=by rw [d.n2];exact hqa
 obtain⟨D,x,rfl,_,_,O,l⟩:=d.2.2.bool u;have C:=za (show zaC a q=x by unfold zaC;rw [dF,O.out];rfl);have Y:=d.2.2.len;have E:∀ W,Ext w W->W.cell? ⟨b,o+i*3+2,none⟩=some (.slice (some D) y S):=fun W hW=>hW.aa I;have F:∀ W,Ext w W->W.cell? ⟨R,os+(pn+i),none⟩=some (.int .i64 (q:Nat)):=fun W hW=>hW.aa J;have H:∀ W,Ext w W->W.cell? (D.add q)=some (.bool x):=fun W hW=>hW.aa l;clear g d h h' T U I J l O n k hi hq hqa
 go_enter Tryz.func276,Tryz.ntmps276
 go_wp2_with fail
 generalize U0:w.alloc _=z at *;obtain⟨f,r⟩:=Ext.x1_ U0;clear U0;have c0:=r.cell;have E:=E z f;have F:=F z f;have H:=H z f;have Z:(pn:Int)+(i:Int)<(sn:Int):=oM;have X:(i:Int)<(an:Int):=oM;have aa:(q:Int)<(y:Int):=oM
 go_quiet (fail)
 go_wp2_with fail
 go_ret;exact⟨zj (by rw [C.out]),f.drewN _⟩
def zav (w:World) (A:Option Addr) (m:Nat) (l:List Nat):Prop:=
 m=l.length∧m<=9223372036854775807∧(0<m->∃ (g o:Nat) (cs:Array Value),A=some ⟨g,o,none⟩∧w.heap[g]?=some (.cells cs 3 (0,0))∧∀ j x,l[j]?=some x->w.cell? ⟨g,o+j,none⟩=some (.int .i64 (x:Nat)))
theorem zav.frm {l:List Nat}(h:zav w A m l)(hb:Frm S w w')(hS:∀ k,S k->∀ cs,w.heap[k]?≠some (.cells cs 3 (0,0))):zav w' A m l:=by
 refine⟨h.1,h.2.1,fun h0=>?_⟩;obtain⟨g,o,cs,e,b,d⟩:=h.2.2 h0;have a:=(Array.getElem?_eq_some_iff.1 b).1;have c:¬ S g:=fun hs=>hS g hs cs b;exact⟨g,o,cs,e,(hb.block g a c).trans b,fun j x hx=>(World.cell?_of_block (w:=w) (hb.block g a c)).trans (d j x hx)⟩
theorem zav.ext {l:List Nat}(h:zav w A m l)(hb:Ext w w'):zav w' A m l:=h.frm (S:=fun _=>False) hb (fun _ hk=>hk.elim)
theorem zav.at_ {l:List Nat}(h:zav w A m l)(hk:k<m):∃ (g o x:Nat),A=some ⟨g,o,none⟩∧Hid (l[k]?=some x)∧w.cell? ⟨g,o+k,none⟩=some (.int .i64 (x:Nat)):=by
 obtain⟨g,o,c,e,_,b⟩:=h.2.2 oM;have a:l[k]?=some (l[k]'(oH h.1)):=dD _;exact⟨g,o,_,e,a,b k _ a⟩
theorem zav.own {l:List Nat}(h:w.ownsRow base 3 1 (.slice A n c) n (zae l)):zav w A n l:=by
 have i:=h.1;rw [nats_length] at i;refine⟨oM,(eE h).len,fun h0=>?_⟩;rcases h.2 with ⟨_,m⟩|⟨g,b,a,k,_,f,_⟩
 ·omega
 ·have d:A=some ⟨g,0,none⟩:=by injection k
  subst d;refine⟨g,0,a,rfl,f,fun j x hx=>?_⟩;have o:=(List.getElem?_eq_some_iff.1 hx).1;rw [dW,h.cellAt j oM];simp [zae,hx]
theorem info_step:(Tryz.prog.info? 272).map (fun i=>(i.zero,i.size,i.bytes))=some (some (.agg #[(0:Int),(0:Int),()]),3,40):=kM
def zbT:List (Stp × Value)->List Value
 |[]=>[]
 |(p,v) :: r=>.int .i64 p.parent :: .int .i64 (p.letter:Nat) :: v :: zbT r
theorem zhI (l m:List (Stp × Value)):zbT (l++m)=zbT l++zbT m:=by
 induction l with
 |nil=>rfl
 |cons x r ih=>obtain⟨p,v⟩:=x;simp [zbT,ih]
theorem zhj {l:List (Stp × Value)}  {p:Stp} (h:l[k]?=some (p,v)):(zbT l)[k*3]?=some (.int .i64 p.parent)∧(zbT l)[k*3+1]?=some (.int .i64 (p.letter:Nat))∧(zbT l)[k*3+2]?=some v:=by
 induction l generalizing k with
 |nil=>simp at h
 |cons a r ih =>
  cases k with
  |zero=>simp at h;subst h;exact⟨rfl,rfl,rfl⟩
  |succ k =>
   obtain⟨c,d⟩:=a;have:=ih (k:=k) (by simpa using h);have b:(k+1)*3=k*3+1+1+1:=oM;refine⟨?_,?_,?_⟩<;>rw [b]<;>simp only [zbT,List.getElem?_cons_succ]
   ·exact this.1
   ·exact this.2.1
   ·exact this.2.2
def Nodes (w:World) (sts:List (Stp × Value)):Prop:=∀ (k:Nat) (p:Stp) (v:Value),sts[k]?=some (p,v)->∃ A c,v=.slice A p.nodes.length c∧zav w A p.nodes.length p.nodes
theorem Nodes.frm {sts:List (Stp × Value)}(h:Nodes w sts)(hb:Frm S w w')(hS:∀ k,S k->∀ cs,w.heap[k]?≠some (.cells cs 3 (0,0))):Nodes w' sts:=fun k p v hk=>by
 obtain⟨A,c,e,hx⟩:=h k p v hk
 exact⟨A,c,e,hx.frm hb hS⟩
structure Sea (w0 w:World) (bs bg bt gs N cs:Nat) (fg:Value) (S:List Bool) (vst:Value) (sts:List (Stp × Value)):Prop where
 ext:Ext w0 w
 vs:Blk w bs 25 #[.slice (some gs) N cs]
 ds:w.ownsRow w0.heap.size 4 1 (.slice (some gs) N cs) N (zaw S)
 vg:∃ t,Blk w bg t #[fg]
 vt:Blk w bt 270 #[vst]
 dt:w.ownsRow w0.heap.size 272 3 vst sts.length (zbT sts)
 nd:Nodes w sts
 hs:w0.heap.size<=bs
 hg:w0.heap.size<=bg
 ht:w0.heap.size<=bt
 hgt:bg≠bt
 hgg:bg≠gs
 hgv:∀ b,vst.ownBlock=some b->b≠bg
section
variable {w0 w w':World} {bs bg bt gs N cs:Nat} {fg vst:Value} {S:List Bool} {sts:List (Stp × Value)}
theorem Sea.far {H:Nat}(h:Sea w0 w bs bg bt gs N cs fg S vst sts)(hb:Frm T w w')(hT:∀ k,T k->H<=k)(h1:bs<H)(h2:bg<H)(h3:bt<H)(h4:gs<H)(h5:∀ b,vst.ownBlock=some b->b<H)(h0:w0.heap.size<=H)(hn:Nodes w' sts):Sea w0 w' bs bg bt gs N cs fg S vst sts:=by
 obtain⟨t,a⟩:=h.vg;refine⟨h.ext.frm hb (fun k hk hS=>by have:=hT k hS;omega),h.vs.frm hb (fun hS=>by have:=hT _ hS;omega),zf h.ds hb (fun b hv hS=>?_),⟨t,a.frm hb (fun hS=>by have:=hT _ hS;omega)⟩,h.vt.frm hb (fun hS=>by have:=hT _ hS;omega),zf h.dt hb (fun b hv hS=>by have:=hT _ hS;have:=h5 b hv;omega),hn,h.hs,h.hg,h.ht,h.hgt,h.hgg,h.hgv⟩;have c:gs=b:=by simpa [Value.ownBlock] using hv
 have:=hT _ hS;omega
theorem Sea.ar (h:Sea w0 w bs bg bt gs N cs fg S vst sts)(hx:Ext w w'):Sea w0 w' bs bg bt gs N cs fg S vst sts:=by
 obtain⟨t,a⟩:=h.vg;exact⟨h.ext.trans hx,h.vs.ext hx,zh h.ds hx,⟨t,a.ext hx⟩,h.vt.ext hx,zh h.dt hx,h.nd.frm (S:=fun _=>False) hx (fun _ hk=>hk.elim),h.hs,h.hg,h.ht,h.hgt,h.hgg,h.hgv⟩
theorem Sea.gs_lt (h:Sea w0 w bs bg bt gs N cs fg S vst sts):w0.heap.size<=gs∧gs<w.heap.size:=h.ds.lt gs rfl
theorem Sea.gs_row (h:Sea w0 w bs bg bt gs N cs fg S vst sts):∃ cur,w.heap[gs]?=some (.cells cur 4 (0,0)):=by
 rcases h.ds.2 with ⟨a,_⟩|⟨g,b,cur,a,_,c,_⟩
 ·injection a with h1;cases h1
 ·have:gs=g:=by injection a with h1;injection h1 with h1;injection h1
  subst this;exact⟨cur,c⟩
theorem Sea.vst_row (h:Sea w0 w bs bg bt gs N cs fg S vst sts) (hb:vst.ownBlock=some b):∃ cur,w.heap[b]?=some (.cells cur 272 (0,0)):=by
 rcases h.dt.2 with ⟨rfl,_⟩|⟨g,a,cur,rfl,_,d,_⟩
 ·simp [Value.ownBlock] at hb
 ·have c:g=b:=by simpa [Value.ownBlock] using hb
  subst c;exact⟨cur,d⟩
theorem Sea.mark (h:Sea w0 w bs bg bt gs N cs fg S vst sts) :Sea w0 (w.setCell ⟨gs,n,none⟩ (.bool true)) bs bg bt gs N cs fg (S.set n true) vst sts:=by
 obtain⟨t,j⟩:=h.vg;obtain⟨m,o⟩:=h.gs_row;have d:=dH w gs n (.bool true);have a:∀ {b:Nat} {t:TypeId} {cs:Array Value},w.heap[b]?=some (.cells cs t (0,0))->t≠4->b≠gs:=by
  rintro b t cs g p rfl;rw [o] at g;injection g with g
  injection g with _ h2
  exact p h2.symm
 have f:(zaw S).set n (.bool true)=zaw (S.set n true):=by simp [zaw,List.map_set]
 have c:=(h.ds.stored n (.bool true)).1;rw [f] at c;refine⟨h.ext.setCell h.gs_lt.1 _,h.vs.frm d (a h.vs dM),c,⟨t,j.frm d h.hgg⟩,h.vt.frm d (a h.vt dM),zf h.dt d (fun b hv=>?_),h.nd.frm d (fun k hk cs hc=>?_),h.hs,h.hg,h.ht,h.hgt,h.hgg,h.hgv⟩
 ·obtain⟨l,i⟩:=h.vst_row hv;exact a i dM
 ·exact a hc dM hk
theorem Sea.push {c':Nat} {A':Option Addr} {p:Stp}(h:Sea w0 w bs bg bt gs N cs fg S vst sts) (zje:w'.ownsRow w0.heap.size 272 3 (.slice (some g) (sts.length+1) cap) (sts.length+1) (zbT sts++[.int .i64 p.parent,.int .i64 (p.letter:Nat),.slice A' l c']))
  (hg:w.grownBy w' vst.ownBlock) (hat:vst.ownBlock=some g∨g=w.heap.size+1) (hl:l=p.nodes.length) (hA:zav w A' l p.nodes) :
  Hid (w'.cell? bt=some vst)∧w'.frozen? bt=false∧Sea w0 (w'.setCell bt (.slice (some g) (sts.length+1) cap)) bs bg bt gs N cs fg S (.slice (some g) (sts.length+1) cap) (sts++[(p,.slice A' l c')]):=by
 obtain⟨t,x⟩:=h.vg;have o:=Frm.ab hg;have a:∀ {b:Nat} {t:TypeId} {cs:Array Value},w.heap[b]?=some (.cells cs t (0,0))->t≠272->¬ (vst.ownBlock=some b):=by
  intro b t cs c H d;obtain⟨f,F⟩:=h.vst_row d;rw [F] at c;injection c with c
  injection c with _ h2
  exact H h2.symm
 obtain⟨f,r⟩:=h.gs_row;have n:Blk w' bt 270 #[vst]:=h.vt.frm o (a h.vt dM);have z:=h.vs.frm o (a h.vs dM);have D:=zf h.ds o (fun b d=>by
  have c:gs=b:=by simpa [Value.ownBlock] using d
  subst c;exact a r dM)
 have y:=x.frm o (fun d=>h.hgv _ d rfl);have G:=h.nd.frm o (fun k hk cs hc=>a hc dM hk);have B:=hA.frm o (fun k hk cs hc=>a hc dM hk);have u:w'.heap[gs]?=some (.cells f 4 (0,0)):=(o.block gs h.gs_lt.2 (a r dM)).trans r;have M:Ext w0 w':=h.ext.frm o (fun k hk d=>by have:=(h.dt.lt k d).1;omega);have s:g≠bg:=by
  rcases hat with i|i
  ·exact h.hgv g i
  ·have:=x.lt;omega
 have q:∃ f,w'.heap[g]?=some (.cells f 272 (0,0)):=by
  rcases zje.2 with ⟨d,_⟩|⟨L,I,f,d,_,F,_⟩
  ·injection d with i;cases i
  ·have:g=L:=by injection d with i;injection i with i;injection i
   subst this;exact⟨f,F⟩
 obtain⟨J,q⟩:=q;have j:=dH w' bt 0 (.slice (some g) (sts.length+1) cap);have m:∀ {b:Nat} {t:TypeId} {cs:Array Value},w'.heap[b]?=some (.cells cs t (0,0))->t≠270->b≠bt:=by
  rintro b t cs c H rfl;unfold Blk at n;rw [n] at c;injection c with c
  injection c with _ h2
  exact H h2.symm
 have E:=zf zje j (fun b d=>by
  have c:g=b:=by simpa [Value.ownBlock] using d
  subst c;exact m q dM)
 have v:=G.frm j (fun k hk cs hc=>m hc dM hk);have C:=B.frm j (fun k hk cs hc=>m hc dM hk);refine⟨n.cell 0,n.frozen 0,M.setCell h.ht _,z.frm j (m z dM),zf D j (fun b d=>by
  have c:gs=b:=by simpa [Value.ownBlock] using d
  subst c;exact m u dM),⟨t,y.frm j h.hgt⟩,by simpa using n.ae 0 _,?_,?_,h.hs,h.hg,h.ht,h.hgt,h.hgg,fun b d=>?_⟩
 ·rw [zhI];simpa [zbT] using E
 ·intro k p' v' hk;rcases eU k sts.length with i|i|i
  ·rw [dJ i] at hk;exact v k p' v' hk
  ·rw [dP oM,i,fC] at hk;have:=Option.some.inj hk;injection this with e1 e2
   subst e1;subst e2;subst hl;exact⟨A',c',rfl,C⟩
  ·rw [eC (by simp;omega)] at hk;cases hk
 ·have c:g=b:=by simpa [Value.ownBlock] using d
  subst c;exact s
end
def RetVisit (w0 w:World) (bs bg bt gs N cs:Nat) (fg:Value) (S:List Bool) (sts:List (Stp × Value)) (goal:Nat->Bool) (parent:Int) (letter:Nat) (ns:List Nat) (e:Ending) (w':World):Prop:=
 e=.returned (.bool ((vis S ns).2.any goal))∧Ext w0 w'∧w.heap.size<=w'.heap.size ∧
  ∃ (vst:Value) (sts':List (Stp × Value)),Sea w0 w' bs bg bt gs N cs fg (vis S ns).1 vst sts' ∧
   (((vis S ns).2=[]∧sts'=sts)∨((vis S ns).2≠[]∧∃ v,sts'=sts++[(⟨parent,letter,(vis S ns).2⟩,v)]))
theorem vis_take {S:List Bool}  (h:ns[k]?=some n):vis S (ns.take (k+1))=visN (vis S (ns.take k)) n:=by
 rw [dO,h];exact vis_snoc _ _ _
theorem Frm.grown_ {row:Option Nat}(h:Frm T w W)(hg:W.grownBy W' row)(hr:∀ k,row=some k->w.heap.size<=k):Frm T w W':=
 ⟨hg.os.trans h.os,hg.tape.trans h.tape,hg.output.trans h.output,dL h.size hg.size,fun k hk hn=>(hg.block k (dY hk h.size) (fun e=>by have:=hr k e.symm;omega)).trans (h.block k hk hn)⟩
theorem any_snoc {l:List Nat}  {p:Nat->Bool}:(l++[n]).any p=(l.any p || p n):=sM
theorem zhn {bs bg bt gs cs:Nat}  {goal:Nat->Bool} {S:List Bool} {vst:Value} {sts:List (Stp × Value)}  {letter:Nat} {parent:Int} 
  (h:Sea w0 w bs bg bt gs N cs (.func (.func kg) #[] capg) S vst sts) (hA:zav w A m ns) (hN:∀ n∈ns,n<N) (hm:m<=1099511627776) (hst:sts.length<=1073741824)
  (hin:∀ args W,(callFunc kg args).run Tryz.prog W=.ok (.enter kg args) W) (hgoal:∀ W,Ext w0 W->∀ n,n<N->Calls Tryz.prog kg (#[.int .i64 (n:Nat)]++capg) W fun e W'=>e=.returned (.bool (goal n))∧Ext W W') :
  Calls Tryz.prog 255 #[parent,letter,.slice A m c,.pointer (some bs),.pointer (some bg),.pointer (some bt)] w (RetVisit w0 w bs bg bt gs N cs (.func (.func kg) #[] capg) S sts goal parent letter ns):=by
 have ax:=za (show S.length=N by have:=h.ds.1;rw [zdG] at this;omega);have ah:=za hA.1;have ad:=za hN;have s:=za hgoal;have X:=h.vs.lt;have G:bg<w.heap.size:=by obtain⟨t,hh⟩:=h.vg;exact hh.lt
 have h3:=h.vt.lt;have h4:=h.gs_lt;have h5:=za (fun b (hb:vst.ownBlock=some b)=>(h.dt.lt b hb).2);have h0:=h.ext.size;have B:=za (show ∀ k,k=gs->∀ cs,w.heap[k]?≠some (.cells cs 3 (0,0)) by
  rintro k rfl ar J;obtain⟨au,hh⟩:=h.gs_row;rw [hh] at J;injection J with J
  injection J with _ G
  exact absurd G dM)
 have Z:=za h.nd;clear hN hgoal
 go_enter Tryz.func255,Tryz.ntmps255
 go_wp2_with fail
 go_loopw [10,11,16] (fun v q i wr=>∃ k:Nat,k<=m∧i=.int .i64 k∧q=.bool ((vis S (ns.take k)).2.any goal)∧wr.ownsRow w.heap.size 3 1 v (vis S (ns.take k)).2.length (zae (vis S (ns.take k)).2)∧(vis S (ns.take k)).2.length<=k ∧
   Sea w0 wr bs bg bt gs N cs (.func (.func kg) #[] capg) (vis S (ns.take k)).1 vst sts∧Frm (fun b=>b=gs) w wr) (fun _ _ i _=>m - (intOf i).toNat)
 case atStart=>exact⟨0,dG _,rfl,rfl,World.ownsRow_nil _ _ _ _,dG _,h,Frm.refl _ _⟩
 case round =>
  clear h;obtain⟨k,Y,rfl,rfl,f,y,h,z⟩:=hrel;have C:=za (show (vis S (ns.take k)).1.length=N by have:=h.ds.1;rw [zdG] at this;omega)
  by_cases hlt:k<m
  ·obtain⟨g,o,n,rfl,hx,J⟩:=(hA.frm z B.out).at_ hlt;have ag:=ad.out n (dC hx.out);have U:=za (vis_take (S:=S) hx.out);generalize vis S (ns.take k)=st at *;obtain⟨T,l⟩:=st;simp only at f y h C;obtain⟨V,O⟩:∃ V,Hid (T[n]?=some V):=⟨_,dD (oH C.out)⟩;have Q:=za (show T.getD n true=V by rw [dF,O.out];rfl);have cS:=h.vs.cell;have cD:wr.cell? ⟨gs,n,none⟩=some (.bool V):=by rw [h.ds.cellAt n oM];simp [zaw,O.out]
   have fD:=h.ds.frozenAt n;cases V
   ·have a:=za (U.out.trans (show visN (T,l) n=(T.set n true,l++[n]) by unfold visN;rw [if_neg (by rw [Q.out];decide)]));have af:=h.mark (n:=n);have L:Frm (fun b=>b=gs) w (wr.setCell ⟨gs,n,none⟩ (.bool true)):=z.cell rfl _;have am:=h4.2;have j:=zf f (dH wr gs n (.bool true)) (fun b hv hS=>by have:=(f.lt b hv).1;omega);have ay:∃ tg,Blk wr bg tg #[.func (.func kg) #[] capg]:=h.vg;cases hfb:l.any goal
    all_goals
     have F:=za hfb;clear hfb;go_upto_region 8 with fail
     generalize wr.setCell ⟨gs,n,none⟩ (.bool true)=w2 at *;go_wp2_with (at_builtin;refine zQ w _ rfl _ _ _ rfl 3 _ 1 8 Tryz.underlying110 zS rfl dM u10 l.length (zae l) _ _ rfl rfl L.size j rfl (by simp [Value.oneCell']) lM oM ?_;intro g5 cap5 w3 zjp hg3 hat3 hlt3;have D:Frm (fun b=>b=gs) w w3:=L.grown_ hg3 (fun k Y=>(j.lt k Y).1);have d:=af.far (Frm.ab hg3) (fun k Y=>(j.lt k Y).1) X G h3 h4.2 h5.out h0 (Z.out.frm D B.out);obtain⟨tg,I⟩:=d.vg;have aq:=I.cell)
    ·refine (s.out w3 d.ext n ag).mono (mQ fun w4 E=>?_);go_wp2_with fail
     go_roundw
     case rel=>exact⟨k+1,oM,gM,by rw [a.out,any_snoc,F.out];rfl,by rw [a.out];simpa [zae] using zh zjp E,by rw [a.out];simp;omega,by rw [a.out];exact d.ar E,D.ext E⟩
     case measure=>simp [intOf];omega
    ·go_roundw
     case rel=>exact⟨k+1,oM,gM,by rw [a.out,any_snoc,F.out];rfl,by rw [a.out];simpa [zae] using zjp,by rw [a.out];simp;omega,by rw [a.out];exact d,D⟩
     case measure=>simp [intOf];omega
   ·have a:=za (U.out.trans (show visN (T,l) n=(T,l) by unfold visN;rw [if_pos Q.out]));go_wp2_with fail
    go_roundw
    case rel=>exact⟨k+1,oM,gM,by rw [a.out],by rw [a.out];exact f,by rw [a.out];exact Nat.le_succ_of_le y,by rw [a.out];exact h,z⟩
    case measure=>simp [intOf];omega
  ·obtain rfl:k=m:=oM;have R:ns.take k=ns:=dK (oH ah.out);rw [R] at f y h ⊢;have ai:=z.size;clear R C;obtain⟨A',c',rfl⟩:=zg f;have H:=zav.own f;have u:=za (show ∀ W vst' sts',Sea w0 W bs bg bt gs N cs (.func (.func kg) #[] capg) (vis S ns).1 vst' sts'->w.heap.size<=W.heap.size->(((vis S ns).2=[]∧sts'=sts)∨((vis S ns).2≠[]∧∃ v,sts'=sts++[(⟨parent,letter,(vis S ns).2⟩,v)]))->RetVisit w0 w bs bg bt gs N cs (.func (.func kg) #[] capg) S sts goal parent letter ns (.returned (.bool ((vis S ns).2.any goal))) W from fun W vst' sts' X G h3=>⟨rfl,X.ext,G,vst',sts',X,h3⟩);clear s hin;generalize vis S ns=st at *;obtain⟨T,l⟩:=st;simp only at f y h H u ⊢;generalize l.any goal=aa at *;cases hfr0:l with
   |nil =>
    subst hfr0;go_wp2_with fail
    go_ret;exact u.out _ _ _ h ai (Or.inl sM)
   |cons x r =>
    have al:0<l.length:=by rw [hfr0];simp
    have M:=za (show l≠[] by rw [hfr0];simp);rw [← hfr0];clear hfr0;have cT:=h.vt.cell;go_wp2_with (at_builtin;refine zQ w0 wr rfl _ _ _ rfl 272 _ 3 40 Tryz.underlying270 info_step rfl dM vst sts.length (zbT sts) _ _ rfl rfl h.ext.size h.dt rfl (by simp [Value.oneCell']) lM oM ?_;intro g5 cap5 w3 zjp hg3 hat3 hlt3;obtain⟨q1,q2,q3⟩:=h.push (p:=⟨parent,letter,l⟩) zjp hg3 hat3 rfl H;have aA:=q1.out;have an:=hg3.size)
    go_ret;exact u.out _ _ _ q3 (by simp;omega) (Or.inr ⟨M.out,_,rfl⟩)
section
open Go.Lib Go.Sort
abbrev zhS (n:Int):Value:=.int .u8 n
set_option maxRecDepth 1000000 in
theorem rev_bytes (blk off cap:Nat) (d:Array Int) (w:World)(hH:Holds zhS w blk off d)(hsz:d.size<=9223372036854775807) :
  Calls Tryz.prog 293 #[.slice (some ⟨blk,off,none⟩) d.size cap] w fun e w'=>e=.returned (.tuple #[])∧∃ n,w'=putRow zhS (Sort.ahead w n) blk off d.reverse:=by
 have p:Tryz.prog.follows .mixedOrders=true:=kM
 go_enter Tryz.func293,Tryz.ntmps293
 go_wp2
 go_loopg [2,3] d.size (fun k s2 s3 wr=>∃ (i a:Nat) (j:Int) (b:Array Int) (n:Nat),s2=.int .i64 i∧s3=.int .i64 j∧((i:Int)<j->j=a∧a<d.size)∧(¬ (i:Int)<j->¬ i<a)∧a - i<=k ∧
  b.size=d.size∧wr=putRow zhS (Sort.ahead w n) blk off b∧reverseLoop i a b=reverseLoop 0 (d.size - 1) d)
 case atStart=>exact⟨0,d.size - 1,(d.size:Int) - 1,d,0,rfl,rfl,fun h=>⟨oM,oM⟩,fun h=>oM,oM,rfl,(putRow_self zhS w blk off d hH).symm,rfl⟩
 case round =>
  obtain⟨i,a,j,b,n,rfl,rfl,q,r,z,l,g,c⟩:=hrel
  by_cases hlt:(i:Int)<j
  ·obtain⟨rfl,t⟩:=q hlt;have o:i<a:=oM;have s:i<d.size:=oM;have f:Holds zhS wr blk off b:=by rw [g];exact holds_putRow zhS _ blk off d b (holds_ahead zhS w n blk off d hH) l
   obtain⟨u,x⟩:=f i oM;obtain⟨v,y⟩:=f a oM;have A:Aside (wr=putRow zhS (Sort.ahead w n) blk off b):=g;clear g f hH q r;go_wp2_with fail
   go_region_o
   go_wp2
   go_roundg (a - 1 - (i+1))
   case measure=>omega
   case rel =>
    rw [reverseLoop,if_pos o] at c;exact⟨i+1,a - 1,(a:Int) - 1,swp b i a,n+1,sM,rfl,fun h=>⟨oM,oM⟩,fun h=>oM,dE _,by rw [size_swp];exact l,
     swap_world zhS oM oM A.out (by first|rfl|simp [zhS,getElem!_pos,show a<b.size by omega]) (by first|rfl|simp [zhS,getElem!_pos,show i<b.size by omega]),c⟩
  ·have m:=r hlt;go_wp2
   go_end0
   refine⟨rfl,n,?_⟩;rw [reverseLoop,if_neg m] at c;rw [← Lib.reverseLoop_reverse,← c]
end
theorem zhy (hl:l<6) (w:World):Calls Tryz.prog 126 #[.int .i64 (l:Nat)] w fun e w'=>e=.returned (.int .u8 ((97+l:Nat):Nat))∧w=w':=by
 go_enter Tryz.func126,Tryz.ntmps126
 go_wp2;go_ret;exact⟨by rw [show (((97+l:Nat):Nat):Int)=97+(l:Int) by omega];rfl,rfl⟩
theorem rev_none (w:World):Calls Tryz.prog 293 #[()] w fun e w'=>e=.returned (.tuple #[])∧w'=w:=by
 go_enter Tryz.func293,Tryz.ntmps293
 go_wp2
 go_loopg [2,3] 0 (fun k s2 s3 wr=>s2=.int .i64 0∧s3=.int .i64 (-1)∧wr=w)
 case atStart=>exact⟨rfl,rfl,rfl⟩
 case round =>
  obtain⟨rfl,rfl,rfl⟩:=hrel;go_wp2
  go_end0
  exact⟨rfl,rfl⟩
theorem info_u8:(Tryz.prog.info? 5).map (fun i=>(i.zero,i.size,i.bytes))=some (some (.int .u8 0),1,1):=kM
def lbs (o:List Nat):List Int:=o.map fun l=>((97+l:Nat):Int)
theorem lbs_reverse (o:List Nat):lbs o.reverse=(lbs o).reverse:=by simp [lbs]
def u8s (l:List Int):List Value:=l.map zhS
theorem Holds.own8 {l:List Int}(h:w.ownsRow base e 1 (.slice (some g) n cap) n (u8s l)):Sort.Holds zhS w g 0 l.toArray:=by
 intro j hj;have a:j<l.length:=by simpa using hj
 have b:=h.1;simp only [u8s,dQ] at b;refine⟨?_,by rw [dW];exact h.frozenAt j⟩;rw [dW,h.cellAt j oM];simp [u8s,a]
theorem Ext.putRow {d:Array Int}(h:Ext w W)(hg:w.heap.size<=g):Ext w (Sort.putRow zhS (Sort.ahead W n) g off d):=by
 refine⟨h.os,h.tape,h.output,?_,fun k hk _=>?_⟩
 ·show w.heap.size<=(W.heap.modify g _).size;rw [Array.size_modify];exact h.size
 ·show (W.heap.modify g _)[k]?=_;rw [Array.getElem?_modify,if_neg oM];exact h.heap hk
theorem u8_row:Tryz.prog.underlying 22=some (.slice 5):=kM
theorem u8_und:Tryz.prog.underlying 5=some (.int .u8):=kM
theorem ziZ:Tryz.prog.underlying 9=some .string:=kM
theorem Ext.put_some {d:Array Int}(h:Ext w W)(hg:w.heap.size<=g)(hw:∃ n,w'=Sort.putRow zhS (Sort.ahead W n) g off d):Ext w w':=by
 obtain⟨n,rfl⟩:=hw;exact h.putRow hg
theorem conv_rev {o:List Nat}(h:Sort.Holds zhS W g 0 (lbs o).toArray)(hw:∃ n,w'=Sort.putRow zhS (Sort.ahead W n) g 0 (lbs o).toArray.reverse) :
  (convert 22 9 (.slice (some g) o.length cap)).run Tryz.prog w'=.ok (.string (strOfNums (lbs o.reverse))) w':=by
 obtain⟨n,rfl⟩:=hw;have c:=Sort.holds_putRow zhS _ g 0 _ (lbs o).toArray.reverse (Sort.holds_ahead zhS W n g 0 _ h) sM;refine run_convert_bytes_arg (P:=Tryz.prog) _ 22 5 u8_row u8_und g 0 o.length cap (lbs o.reverse) (by simp [lbs]) (fun i hi=>?_) _ ziZ;rw [(c i (by simpa [lbs] using hi)).1,lbs_reverse];have a:i<(lbs o).reverse.length:=by simpa [lbs] using hi
 have b:i<(lbs o).toArray.reverse.size:=by simpa [lbs] using hi
 rw [getElem!_pos (lbs o).toArray.reverse i b];simp [zhS,List.getD,dD a,-List.getElem?_reverse,-List.getElem_reverse]
theorem pathWord_any {sts:List (Stp × Value)} {ws:List (List Nat)}(h:w.ownsRow base 272 3 (.slice A n c) n (zbT sts))(hn:sts.length=n)(h0:0<n)(hsz:n<=1073741824)
  (hw:∀ (k:Nat) (p:Stp) (v:Value),sts[k]?=some (p,v)->(p.parent = -1∧ws.getD k []=[])∨∃ a:Nat,p.parent=(a:Int)∧a<k∧p.letter<6∧ws.getD k []=ws.getD a []++[p.letter]) :
  Calls Tryz.prog 256 #[.slice A n c] w fun e w'=>e=.returned (.string (strOfNums (lbs (ws.getD (n - 1) []))))∧Ext w w':=by
 have L:=za hw;have J:=za hn;obtain⟨g,rfl⟩:∃ g,A=some ⟨g,0,none⟩:=by
  rcases h.2 with ⟨_,U⟩|⟨g,cap,z,hv,_⟩
  ·omega
  ·exact⟨g,by injection hv⟩
 have T:=(h.lt g rfl).2;have m:=za (fun (k:Nat) (p:Stp) (v:Value) (D:sts[k]?=some (p,v))=>(show w.cell? ⟨g,k*3,none⟩=some (.int .i64 p.parent)∧w.cell? ⟨g,k*3+1,none⟩=some (.int .i64 (p.letter:Nat)) by
  have V:=(List.getElem?_eq_some_iff.1 D).1;obtain⟨M,O,_⟩:=zhj D;rw [h.cellAt _ oM,h.cellAt _ oM];exact⟨M,O⟩))
 clear hw hn h
 go_enter Tryz.func256,Tryz.ntmps256
 go_wp2
 go_loopw [3,4] (fun v i wr=>∃ (k:Nat) (o:List Nat),k<n∧i=.int .i64 k∧wr.ownsRow w.heap.size 5 1 v o.length (u8s (lbs o))∧Hid (ws.getD (n - 1) []=ws.getD k []++o.reverse)∧o.length+k<n∧Ext w wr)
  (fun _ i _=>(intOf i).toNat)
 case atStart=>exact⟨n - 1,[],oM,by first|go_num|(congr 1;omega),World.ownsRow_nil _ _ _ _,by simp [Hid],by simp;omega,dB _⟩
 case round =>
  obtain⟨k,o,D,rfl,j,b,Z,r⟩:=hrel;obtain⟨p,v,y⟩:∃ p v,sts[k]?=some (p,v):=⟨_,_,dD (oH J.out)⟩;obtain⟨F,G⟩:=m.out k p v y;have H:∀ W,Ext w W->W.cell? ⟨g,k*3,none⟩=some (.int .i64 p.parent):=fun W hW=>hW.aa F;have I:∀ W,Ext w W->W.cell? ⟨g,k*3+1,none⟩=some (.int .i64 (p.letter:Nat)):=fun W hW=>hW.aa G;obtain⟨ad,l,ns⟩:=p;dsimp only at H I;have X:(k:Int)<(n:Int):=oM;clear F G;rcases L.out k _ v y with ⟨d,f⟩|⟨a,d,S,s,f⟩
  ·dsimp only at d;subst d;have u:=za (show ws.getD (n - 1) []=o.reverse by rw [b.out,f];rfl);clear b f y;rcases j.2 with ⟨rfl,t⟩|⟨Q,cap,z,rfl,C,U,_⟩
   ·have Y:o=[]:=List.eq_nil_of_length_eq_zero t;subst Y;have B:∀ W,(convert 22 9 (.slice none 0 0)).run Tryz.prog W=.ok (.string ByteArray.empty) W:=fun W=>run_convert_bytes_nil (P:=Tryz.prog) W 22 5 u8_row u8_und _ _ _ ziZ;go_wp2_with (go_at_call 293;refine (rev_none _).mono ?_;rintro e w' ⟨rfl,rfl⟩)
    go_ret;exact⟨by rw [u.out];rfl,r⟩
   ·have x:=rev_bytes Q 0 cap (lbs o).toArray wr (Holds.own8 j) (by simp [lbs];omega);rw [show (lbs o).toArray.size=o.length by simp [lbs]] at x;have R:=za (Holds.own8 j);go_wp2_with (go_at_call 293;refine x.mono (mQ fun w' q=>?_);have B:=conv_rev (cap:=cap) R.out q;have hx:=Ext.put_some r C q;clear q)
    go_ret;exact⟨by rw [u.out];rfl,hx⟩
  ·dsimp only at d f s;subst d;have E:=za (show ws.getD (n - 1) []=ws.getD a []++(o++[l]).reverse by rw [b.out,f];simp);clear b f y;go_wp2_with (first
    |(go_at_call 126;refine (zhy s _).mono ?_;rintro e w' ⟨rfl,rfl⟩)
    |(at_builtin;refine zU w wr rfl (.tmp 19) (.tmp 26) _ rfl 5 _ 1 1 Tryz.underlying22 info_u8 rfl dM u3 _ _ _ _ rfl rfl r j rfl (ziq _) lM oM ?_;intro v' w1 hext1 zjn hg1 hat1))
   go_roundw
   case rel=>exact⟨a,o++[l],oM,rfl,by simpa [u8s,lbs] using zjn,E,by simp;omega,aM⟩
   case measure=>simp [intOf];omega
def zP (w:World) (d:Nat->Nat->List Nat) (start:List Nat) (goal:Nat->Bool) (L:List Nat) (e:Ending) (w':World):Prop:=
 Ext w w'∧((∃ v,e=.returned (.tuple #[.string (strOfNums (lbs v)),.bool true])∧Found d start goal L v)∨(e=.returned (.tuple #[ByteArray.empty,.bool false])∧Lost d start goal L))
theorem Sea.start {w1:World}  {fg:Value} (hx:Ext (w.alloc (.cells #[fg] t)) w1)(hsz:(w.alloc (.cells #[fg] t)).heap.size<w1.heap.size)(hg:Blk (w.alloc (.cells #[fg] t)) w.heap.size t #[fg]) (zje:w1.ownsRow w.heap.size 4 1 (.slice (some ⟨w.heap.size+1,0,none⟩) N N) N (zaw (dT N false))) :
  Sea w ((w1.alloc (.cells #[.slice (some ⟨w.heap.size+1,0,none⟩) N N] 25)).alloc (.cells #[()] 270)) w1.heap.size w.heap.size (w1.heap.size+1) (w.heap.size+1) N N fg (dT N false) (.slice none 0 0) []:=by
 simp only [World.size_alloc] at hsz;have c:Ext w w1:=((dB w).alloc _).trans hx;have f:=dX w1 25 #[.slice (some ⟨w.heap.size+1,0,none⟩) N N];have d:=dX (w1.alloc (.cells #[.slice (some ⟨w.heap.size+1,0,none⟩) N N] 25)) 270 #[()];have a:Ext w1 ((w1.alloc (.cells #[.slice (some ⟨w.heap.size+1,0,none⟩) N N] 25)).alloc (.cells #[()] 270)):=((dB w1).alloc _).alloc _;refine⟨c.trans a,f.ext ((dB _).alloc _),zh zje a,⟨t,hg.ext (hx.trans a)⟩,by simpa using d,World.ownsRow_nil _ _ _ _,fun k p v hk=>by simp at hk,oM,dE _,oM,oM,oM,fun b hb=>by simp [Value.ownBlock] at hb⟩
theorem sts_add {sts sts':List (Stp × Value)} {a:Int}  (h:(fr=[]∧sts'=sts)∨(fr≠[]∧∃ v,sts'=sts++[(⟨a,l,fr⟩,v)])):sts'.map Prod.fst=addS (sts.map Prod.fst) a l fr:=by
 rcases h with ⟨b,rfl⟩|⟨b,v,rfl⟩
 ·rw [addS,if_pos b]
 ·rw [addS,if_neg b];simp
theorem Bfs.letters {d:Nat->Nat->List Nat} {start:List Nat} {goal:Nat->Bool} {L:List Nat}  {S:List Bool} {st:List Stp} {ws:List (List Nat)} (h:Bfs d start goal L N S st ws i j):∀ (m k:Nat),k<=m->k<st.length->∀ l∈ws.getD k [],l∈L:=by
 intro m
 induction m with
 |zero =>
  intro k hk hlt l hl;obtain rfl:k=0:=oM;rw [h.zero _ (dD hlt)] at hl;cases hl
 |succ m ih =>
  intro k hk hlt l hl;rcases h.word k _ (dD hlt) with ⟨_,_,e⟩|⟨a,b,_,f,_,g,e⟩
  ·rw [e] at hl;cases hl
  ·rw [e] at hl;rcases List.mem_append.1 hl with c|c
   ·exact ih a oM oM l c
   ·rw [List.mem_singleton.1 c];exact dC g
theorem Bfs.words {d:Nat->Nat->List Nat} {start:List Nat} {goal:Nat->Bool} {L:List Nat}  {S:List Bool} {st:List Stp} {ws:List (List Nat)} (h:Bfs d start goal L N S st ws i j)(hL:Rise L)  (ha:a<st.length)(hl:l∈L) (k:Nat) (p:Stp)(hp:(st++[⟨a,l,fr⟩])[k]?=some p) :
  (p.parent = -1∧(ws++[ws.getD a []++[l]]).getD k []=[])∨∃ b:Nat,p.parent=(b:Int)∧b<k∧p.letter<6∧(ws++[ws.getD a []++[l]]).getD k []=(ws++[ws.getD a []++[l]]).getD b []++[p.letter]:=by
 rcases eU k st.length with f|f|f
 ·rw [dJ f] at hp;rw [zff _ (by rw [h.wl];exact f)];rcases h.word k p hp with ⟨_,g,m⟩|⟨b,c,g,m,_,n,o⟩
  ·exact Or.inl ⟨g,m⟩
  ·exact Or.inr ⟨b,g,m,hL.1 _ (dC n),by rw [zff _ (by rw [h.wl];omega)];exact o⟩
 ·rw [f,dP (dE _),fC] at hp;obtain rfl:=Option.some.inj hp;refine Or.inr ⟨a,rfl,oM,hL.1 _ hl,?_⟩;rw [f,← h.wl,zgN,zff _ (by rw [h.wl];exact ha)]
 ·rw [eC (by simp;omega)] at hp;cases hp
theorem Frm.out {a b c:World}(h:Frm T a b) (k:Frm S b c)(hS:∀ x,S x->T x):Frm T a c:=h.trans (k.mono fun x _ hx=>hS x hx)
set_option maxHeartbeats 16000000 in
theorem zfe {kn cL:Nat} {AL:Option Addr} {capn:Array Value} {goal:Nat->Bool} {d:Nat->Nat->List Nat} {start L:List Nat} {D:Nat}
  (hA:zav w A m start) (hstart:∀ n∈start,n<N) (hm:m<=1099511627776) (hL:zav w AL q L) (hrise:Rise L) (hN:N<=16777216) (hD:D<=4096)
  (hinn:∀ args W,(callFunc kn args).run Tryz.prog W=.ok (.enter kn args) W) (hin:∀ args W,(callFunc kg args).run Tryz.prog W=.ok (.enter kg args) W)
  (hgoal:∀ W,Ext w W->∀ n,n<N->Calls Tryz.prog kg (#[.int .i64 (n:Nat)]++capg) W fun e W'=>e=.returned (.bool (goal n))∧Ext W W')
  (hd:∀ n l,n<N->l∈L->(d n l).length<=D∧∀ x∈d n l,x<N)
  (hnext:∀ W,Ext w W->∀ n l,n<N->l∈L->∀ (base:Nat) (A:Option Addr) (m c:Nat) (xs:List Nat),w.heap.size<=base->base<=W.heap.size->m<=1099511627776->W.ownsRow base 3 1 (.slice A m c) m (zae xs) ->
   Calls Tryz.prog kn (#[.int .i64 (n:Nat),.int .i64 (l:Nat),.slice A m c]++capn) W fun e W'=>∃ A' c',e=.returned (.slice A' (xs++d n l).length c')∧W'.ownsRow base 3 1 (.slice A' (xs++d n l).length c') (xs++d n l).length (zae (xs++d n l))∧Frm (fun k=>(Value.slice A m c).ownBlock=some k) W W') :
  Calls Tryz.prog 175 #[.int .i64 (N:Nat),.slice A m c,.slice AL q cL,.func (.func kn) #[] capn,.func (.func kg) #[] capg] w (zP w d start goal L):=by
 have HA:=za hA;have o:=za hstart;have M:=za hgoal;have al:=za hnext;have Hd:=za hd;have bF:q<=9223372036854775807:=hL.2.1;clear hA hstart hgoal hnext hd
 go_enter Tryz.func175,Tryz.ntmps175
 have aI:Ext w (w.alloc (.cells #[.func (.func kg) #[] capg] 126)):=(dB w).alloc _;have z:=za (dX w 126 #[.func (.func kg) #[] capg]);go_upto_region 4 with (at_make;refine zbm w _ rfl _ _ 25 rfl 4 _ 1 1 Tryz.underlying25 zaT _ _ N rfl rfl aI oM lM ?_;intro w1 hext1 zjn hx1 hsz1)
 have aO:w1.ownsRow w.heap.size 4 1 (.slice (some ⟨w.heap.size+1,0,none⟩) N N) N (zaw (dT N false)):=by
  have h:=zjn;rw [World.size_alloc] at h;simpa [zaw,Value.cells,toList_madeCells_one] using h
 have ah:=Sea.start hx1 hsz1 z.out aO;obtain⟨w2,U0⟩:∃ x,Hid ((w1.alloc (.cells #[.slice (some ⟨w.heap.size+1,0,none⟩) N N] 25)).alloc (.cells #[()] 270)=x):=⟨_,za rfl⟩;have aJ:Ext w w2:=((hext1.alloc _).alloc _).trans (Ext.eq_ U0.out);clear zjn aO hx1 hsz1 z hext1 aI;generalize w1.heap.size+1=bt at *;generalize w1.heap.size=bs at *;rw [U0.out] at *;have au:=zgD (dT N false) start (fun n Q=>by have:=o.out n Q;simpa using this);cases hg:(vis (dT N false) start).2.any goal
 ·have Hg:=za hg;have G:=za (Bfs.begin_ (d:=d) (L:=L) (goal:=goal) o.out (fun x J=>by
   cases z:goal x
   ·rfl
   ·rw [List.any_eq_true.2 ⟨x,J,z⟩] at hg;cases hg))
  have hC:=za ((Cnt.nil N).add (-1) 0 start);clear hg au;go_wp2_with (go_at_call 255;refine (zhn (letter:=0) (parent := -1) ah (HA.out.ext aJ) o.out hm sM hin M.out).mono ?_;rintro e w3 ⟨rfl,av,aG,F,a,X,f⟩;rw [Hg.out];have Y:=za (sts_add f);clear f)
  go_loopw [15,17,18,20] (fun i l r x wr=>∃ (k:Nat) (S:List Bool) (F:Value) (a:List (Stp × Value)) (ws:List (List Nat)),i=.int .i64 k∧k<=a.length∧a.length<=N∧Sea w wr bs w.heap.size bt (w.heap.size+1) N N (.func (.func kg) #[] capg) S F a∧Hid (Bfs d start goal L N S (a.map Prod.fst) ws k 0)∧Hid (Cnt S (a.map Prod.fst)))
   (fun i _ _ _ _=>N+1 - (intOf i).toNat)
  case atStart =>
   simp only [List.map_nil] at Y;have H:=G.out;have O:=hC.out;rw [← Y.out] at H O;exact⟨0,_,F,a,_,rfl,dG _,by have:=O.steps H.some_;rw [H.len] at this;simpa using this,X,za H,za O⟩
  case round =>
   clear X Y G hC av aG;clear F a;obtain⟨k,S,F,a,ws,rfl,hk,af,E,G,hC⟩:=hrel;obtain⟨Av,cv,rfl⟩:=zg E.dt;have cT:=E.vt.cell 0
   by_cases hlt:k<a.length
   ·have am:((k:Int)<(a.length:Int)):=oM;go_wp2
    go_loopw [17,18,20,35] (fun _ _ _ i2 wi=>∃ (j:Nat) (S:List Bool) (F:Value) (a:List (Stp × Value)) (ws:List (List Nat)),i2=.int .i64 j∧j<=q∧k<a.length∧a.length<=N∧Sea w wi bs w.heap.size bt (w.heap.size+1) N N (.func (.func kg) #[] capg) S F a∧Hid (Bfs d start goal L N S (a.map Prod.fst) ws k j)∧Hid (Cnt S (a.map Prod.fst)))
     (fun _ _ _ i2 _=>q - (intOf i2).toNat)
    case atStart=>exact⟨0,S,_,a,ws,rfl,dG _,hlt,af,E,G,hC⟩
    case round =>
     clear E G hC cT hlt am hk af;rename World=>wi
     obtain⟨j,S,F,a,ws,rfl,hj,hk,af,E,G,hC⟩:=hrel
     by_cases hjq:j<q
     ·obtain⟨gl,ol,l,rfl,aw,aD⟩:=hL.at_ hjq;have cL:wi.cell? ⟨gl,ol+j,none⟩=some (.int .i64 (l:Nat)):=E.ext.aa aD;have R:=za (dC aw.out);obtain⟨⟨⟨pp,pl,I⟩,vk⟩,ae⟩:∃ x,Hid (a[k]?=some x):=⟨_,dD hk⟩;obtain⟨Ak,ck,rfl,T⟩:=E.nd k _ vk ae.out;dsimp only at T ae;have V:=za (show (a.map Prod.fst)[k]?=some ⟨pp,pl,I⟩ by rw [dS,ae.out];rfl);have aq:=List.length_pos_iff.2 (G.out.some_ k _ V.out);have aW:I.length<=N:=by have:=hC.out.nodes V.out;rw [G.out.len] at this;exact this
      have s:=za (G.out.small k _ V.out);dsimp only at aq s;have cV:wi.cell? bt=some F:=E.vt.cell 0;obtain⟨Av,cv,rfl⟩:=zg E.dt;obtain⟨gv,rfl⟩:∃ gv,Av=some ⟨gv,0,none⟩:=by
       rcases E.dt.2 with ⟨_,hh⟩|⟨g,bq,bu,hv,_⟩
       ·omega
       ·exact⟨g,by injection hv⟩
      obtain⟨mk,ap⟩:∃ mk,Hid (mk=I.length):=⟨_,rfl⟩;have cK:wi.cell? ⟨gv,k*3+2,none⟩=some (.slice Ak mk ck):=by
       rw [E.dt.cellAt _ oM,ap.out];exact (zhj ae.out).2.2
      rw [← ap.out] at T aq aW;obtain⟨gk,ok,_,rfl,_,_⟩:=T.at_ aq;have aQ:=za T;have h1:=E.vs.lt;have h2:w.heap.size<wi.heap.size:=by obtain⟨t,hh⟩:=E.vg;exact hh.lt
      have h3:=E.vt.lt;have h4:=E.gs_lt.2;have h0:=E.ext.size;have az:=za (show ∀ b,wi.heap.size<=b->∀ cs,wi.heap[b]?≠some (.cells cs 3 (0,0)) from fun b hb cs hc=>by
       have:=(Array.getElem?_eq_some_iff.1 hc).1;omega)
      have bG:=(E.dt.lt gv rfl).2;have ay:=za (fun W (hW:Frm (fun b=>wi.heap.size<=b) wi W)=>E.far hW (fun _ h=>h) h1 h2 h3 h4 (fun b hb=>by have:gv=b:=(by simpa [Value.ownBlock] using hb);omega) h0 (E.nd.frm hW az.out));have bD:(k:Int)<(a.length:Int):=oM;have bC:(j:Int)<(q:Int):=oM;clear T aD E h1 h3 h4;go_wp2_with fail
      go_loopw [18,20,45] (fun v _ i3 wr=>∃ i:Nat,i3=.int .i64 i∧i<=mk∧wr.ownsRow wi.heap.size 3 1 v (reach d l (I.take i)).length (zae (reach d l (I.take i)))∧Frm (fun b=>wi.heap.size<=b) wi wr) (fun _ _ i3 _=>mk - (intOf i3).toNat)
      case atStart=>exact⟨0,rfl,dG _,World.ownsRow_nil _ _ _ _,Frm.refl _ _⟩
      case round =>
       obtain⟨i,rfl,hi,aa,ad⟩:=hrel;have aC:=za (ay.out wr ad);have a0:=ad.size;have aZ:(reach d l (I.take i)).length<=1099511627776 - 4096:=by
        have e1:=reach_len (d:=d) (l:=l) (D:=D) (ns:=I.take i) (fun n Q=>(Hd.out n l (s.out n (gU Q)) R.out).1);have e2:=eR (show (I.take i).length<=16777216 by rw [eT];omega) hD;omega
       obtain⟨A0,c0,rfl⟩:=zg aa;clear cL cV cK
       by_cases hil:i<mk
       ·obtain⟨g',o',n,aB,Q,cN⟩:=(aQ.out.frm ad az.out).at_ hil;obtain⟨rfl,rfl⟩:gk=g'∧ok=o':=by injection aB with e;injection e with e1 e2;exact⟨e1,e2⟩
        have aF:=s.out n (dC Q.out);have aX:=za (al.out wr aC.out.ext n l aF R.out wi.heap.size A0 _ c0 _ h0 a0 oM aa);clear aB;go_wp2_with fail
        refine aX.out.mono ?_;rintro e w4 ⟨A',c',rfl,U,aV⟩;have aE:=za (fun b (hb:(Value.slice A0 (reach d l (I.take i)).length c0).ownBlock=some b)=>(aa.lt b hb).1);go_wp2_with fail
        go_roundw
        case rel=>exact⟨i+1,gM,oM,by rw [reach_take Q.out];rw [dN] at U ⊢;exact U,ad.out aV aE.out⟩
        case measure=>simp [intOf];omega
       ·obtain rfl:i=mk:=oM;have a1:I.take i=I:=dK (oH ap.out);rw [a1] at aa aZ ⊢;have ar:=za (fun x (J:x∈reach d l I)=>by
         obtain⟨n,Q,J⟩:=zgV.1 J;exact (Hd.out n l (s.out n Q) R.out).2 x J)
        have ai:=za (zhn (letter:=l) (parent:=(k:Int)) (c:=c0) aC.out (zav.own aa) ar.out oM oM hin M.out);cases hg:(vis S (reach d l I)).2.any goal
        ·have Hg:=za hg;have H:=za (G.out.step hrise V.out aw.out (fun x=>zgV) ar.out (fun x J=>by
          cases z:goal x
          ·rfl
          ·rw [List.any_eq_true.2 ⟨x,J,z⟩] at hg;cases hg))
         have O:=za (hC.out.add (k:Int) l (reach d l I));clear hg;go_wp2_with fail
         refine ai.out.mono ?_;rintro e w4 ⟨rfl,aK,aH,aj,C,B,f⟩;rw [Hg.out];have Y:=za (sts_add f);have bh:a.length<=C.length:=by
          rcases f with ⟨_,rfl⟩|⟨_,v,rfl⟩<;>simp
         rw [← Y.out] at H O;go_wp2_with fail
         go_roundw
         case rel=>exact⟨j+1,_,aj,C,_,gM,oM,oM,(by have:=O.out.steps H.out.some_;rw [H.out.len] at this;simpa using this),B,H,O⟩
         case measure=>simp [intOf];omega
        ·have Hg:=za hg;obtain⟨x,J,z⟩:=List.any_eq_true.1 hg;have ag:=((zgD S (reach d l I) (fun n Q=>by rw [G.out.len];exact ar.out n Q)).2.2 x).1 J;obtain⟨n,Q,aL⟩:=zgV.1 ag.1;have hF:=za (show Found d start goal L (ws.getD k []++[l]) from ⟨fun m hm=>(by
          rcases List.mem_append.1 hm with h|h
          ·exact G.out.letters k k (dE _) (by simpa using hk) m h
          ·rw [List.mem_singleton.1 h];exact R.out),⟨x,(G.out.goes k _ V.out n Q).snoc aL,z⟩,fun u hu hlt y hy=>G.out.found hrise (by simpa using hk) aw.out hu hlt hy⟩)
         clear hg z ag aL;go_wp2_with fail
         refine ai.out.mono ?_;rintro e w4 ⟨rfl,aK,aH,aj,C,B,f⟩;rw [Hg.out];obtain⟨_,v4,Z⟩:(vis S (reach d l I)).2≠[]∧∃ v,C=a++[(⟨(k:Int),l,(vis S (reach d l I)).2⟩,v)]:=by
          rcases f with ⟨h,_⟩|h
          ·rw [h] at J;cases J
          ·exact h
         have an:C.length=a.length+1:=by rw [Z];simp
         obtain⟨A4,c4,rfl⟩:=zg B.dt;have bp:=B.vt.cell 0;have aY:=za (show Calls Tryz.prog 256 #[.slice A4 C.length c4] w4 fun e w'=>e=.returned (.string (strOfNums (lbs (ws.getD k []++[l]))))∧Ext w4 w' by
          have aN:=pathWord_any (ws:=ws++[ws.getD k []++[l]]) B.dt rfl oM oM (fun i p v hi=>by
           have hm:(C.map Prod.fst)[i]?=some p:=by rw [dS,hi];rfl
           rw [Z,eK] at hm;exact G.out.words hrise (by simpa using hk) R.out i p hm)
          rw [an,gK,show a.length=ws.length by have:=G.out.wl;simpa using this.symm,zgN] at aN;rw [an,show a.length=ws.length by have:=G.out.wl;simpa using this.symm];exact aN)
         clear J f Z an;go_wp2_with fail
         refine aY.out.mono (mQ fun w5 a3=>?_);go_wp2_with fail
         go_ret2;exact⟨aK.trans a3,Or.inl ⟨_,rfl,hF.out⟩⟩
     ·obtain rfl:j=q:=oM;have bE:=hL.1;have aT:=za (G.out.row oM);go_wp2;go_roundw
      case rel=>exact⟨k+1,S,F,a,ws,gM,oM,af,E,aT,hC⟩
      case measure=>simp [intOf];omega
   ·obtain rfl:k=a.length:=oM;have ao:=za (show Lost d start goal L from fun v hv x J=>G.out.none sM hv J);have ag:=E.ext;go_wp2;go_ret2;exact⟨ag,Or.inr ⟨rfl,ao.out⟩⟩
 ·have Hg:=za hg;obtain⟨x,J,z⟩:=List.any_eq_true.1 hg;have hF:=za (show Found d start goal L [] from ⟨fun l hl=>(by cases hl),⟨x,.nil ((au.2.2 x).1 J).1,z⟩,fun u _ hu=>by rw [zfE] at hu;omega⟩);clear hg au;go_wp2_with (go_at_call 255;refine (zhn (letter:=0) (parent := -1) ah (HA.out.ext aJ) o.out hm sM hin M.out).mono ?_;rintro e w' ⟨rfl,av,_⟩;rw [Hg.out])
  go_ret2;exact⟨av,Or.inl ⟨[],rfl,hF.out⟩⟩
theorem stepB_low (hf:Few k0 es)(hb:x.testBit j=true)(hl:∀ i,i<j->x.testBit i=false) (l:Int):zbr es x l=succ es j l|||zbr es (x - 2 ^ j) l:=by
 apply fV;intro k;rw [Nat.testBit_or,Bool.eq_iff_iff,gJ,zcp,zcp,zcO];constructor
 ·rintro ⟨e,b,⟨c,a⟩,d⟩;have:=hf e b
  by_cases e1:e.fr.toNat=j
  ·exact Or.inl ⟨e,b,⟨oM,c⟩,d⟩
  ·refine Or.inr ⟨e,b,⟨c,?_⟩,d⟩;rw [zcE hb hl,a];simp [e1]
 ·rintro (⟨e,b,⟨c,a⟩,d⟩|⟨e,b,⟨c,a⟩,d⟩)
  ·exact⟨e,b,⟨a,by rw [c];exact hb⟩,d⟩
  ·rw [zcE hb hl] at a;simp only [dI] at a;exact⟨e,b,⟨c,a.1⟩,d⟩
theorem zii (es:List Edg) (l:Int):zbr es 0 l=0:=by
 apply fV;intro k;rw [Nat.zero_testBit,eM];intro h;obtain⟨e,_,⟨_,a⟩,_⟩:=(zcp es 0 l k).1 h;simp at a
theorem stepB_sm (hf:Few k0 es)(h:k0<=16) (x:Nat) (l:Int):Sm (zbr es x l):=
 dY (zfA hf x l) (by rw [show (4294967296:Nat)=2 ^ 32 from rfl];exact dV oM oM)
theorem impl_step {bm set:Nat} (hm:MovAt w bm es)(hT:Tab w)(hset:set<2 ^ 16)(hl:l<6)(hf:Few k0 es)(hk0:k0<=16) :
  Calls Tryz.prog 191 #[.pointer (some bm),set,l] w fun e w'=>e=.returned (.int .i64 (zbr es set l:Nat))∧Ext w w':=by
 have g:set<65536:=by simpa using hset
 have D:=za hf;clear hf
 go_enter Tryz.func191,Tryz.ntmps191
 go_wp2
 go_loopw [1,7] (fun s v wr=>∃ x:Nat,s=.int .i64 x∧x<65536∧∃ y:Nat,v=.int .i64 y∧Sm y∧Hid (zbr es set l=y|||zbr es x l)∧Ext w wr) (fun s _ _=>(intOf s).toNat)
 case atStart=>exact⟨set,rfl,g,0,rfl,tM,by simp [Hid],dB _⟩
 case round =>
  obtain⟨x,rfl,Y,y,rfl,L,r,c⟩:=hrel
  by_cases h0:x=0
  ·subst h0;go_wp2;go_ret;have F:=r.out;rw [zii,Nat.or_zero] at F;exact⟨zD (by rw [F]),c⟩
  ·have q:Sm x:=tM;obtain⟨j,I,J,k,m,d,B⟩:=lowest h0 q;have i:j<16:=by
    rcases eL j 16 with h|h
    ·exact h
    ·have:=dV (n:=2) oM h;omega
   have X:=Nat.two_pow_pos j;have o:=za (stepB_low D.out k m l);have E:=hm j l i hl;have U:∀ W,Ext wr W->W.cell? ⟨bm,j*6+l,none⟩=some (.int .i64 (succ es j l:Nat)):=fun W hW=>(c.trans hW).aa E;have t:=za (fun W (hW:Ext wr W)=>hT.ext (c.trans hW));have M:=succ_sm D.out hk0 j l;have O:=za (zbE L M);have R:((x:Int) != 0)=true:=by simp;omega
   have G:=za (zbO (a:=x) (b:=x - 1) q tM);have H:=za (show ((x:Int) - 1)=((x - 1:Nat):Int) by omega);have Z:IntKind.u64.wrap (x:Int)=x:=by rw [IntKind.wrap_u64];omega
   have C:=za (fun W (hW:Ext wr W)=>(show Calls Tryz.prog 229 #[.int .u64 x] W fun e w'=>e=.returned (.int .i64 j)∧W=w' by rw [← I];exact tz x oM h0 W (t.out W hW)));have S:=dB wr;have T:x - 2 ^ j<x:=oM;have p:x&&&(x - 1)=x - 2 ^ j:=d;have f:=za p;have Q:(l:Int)<6:=oM;have u:(j:Int)<16:=oM;clear I k m d p h0 B E;generalize succ es j l=z at *;go_wp2_with fail
   go_region_held3 (fun W=>Ext wr W) (first|assumption|(refine eV ?_;assumption)|(refine eJ ?_ aM;assumption)|(refine eJ ?_ aM;refine eV ?_;assumption)) ((go_at_call 229;refine (C.out _ ?_).mono ?_;(first|assumption|(refine eV ?_;assumption));rintro e w' ⟨rfl,rfl⟩))
   go_wp2_with fail
   go_roundw
   case rel=>exact⟨x&&&(x - 1),by rw [H.out,G.out],by rw [f.out];omega,y|||z,by rw [O.out],L.or M,by unfold Hid;rw [r.out,o.out,f.out,Nat.or_assoc],c.trans aM⟩
   case measure =>
    have:=G.out;rw [← H.out] at this;have V:=f.out;simp [intOf];omega
theorem zfU (a:Nat):Rise (letters a 6):=by
 refine⟨fun l hl=>(zcd.1 hl).1,fun i j x y hx hy hij=>?_⟩;have b:(letters a 6).Pairwise (·<·):=List.Pairwise.filter _ jQ;obtain⟨c,rfl⟩:=List.getElem?_eq_some_iff.1 hx;obtain⟨d,rfl⟩:=List.getElem?_eq_some_iff.1 hy;exact List.pairwise_iff_getElem.1 b i j c d hij
theorem Blk.ne {u:TypeId} {ds:Array Value}(h:Blk w a t cs)(h':Blk w b u ds)(ht:t≠u):a≠b:=by
 rintro rfl;unfold Blk at h h';rw [h] at h';injection h' with h'
 injection h' with _ h2
 exact ht h2
theorem zcJ (h:Blk w g 3 #[.int .i64 (x:Nat)]):zav w (some ⟨g,0,none⟩) 1 [x]:=by
 refine⟨rfl,oM,fun _=>⟨g,0,_,rfl,h,fun j y hj=>?_⟩⟩;cases j with
 |zero =>
  obtain rfl:=Option.some.inj hj;rw [h.cell];rfl
 |succ j=>simp at hj
theorem rising_pw :zgF es↔es.Pairwise (fun x y=>ltE x y=true):=by
 rw [jF];constructor
 ·intro h i j hi hj hij;exact h i j _ _ (dD hi) (dD hj) hij
 ·intro h a b x y hx hy hab;obtain⟨c,rfl⟩:=List.getElem?_eq_some_iff.1 hx;obtain⟨d,rfl⟩:=List.getElem?_eq_some_iff.1 hy;exact h a b c d hab
theorem zhZ (a k:Nat):(letters a k).Pairwise (·<·):=List.Pairwise.filter _ jQ
theorem asc_ext:∀ {l m:List Nat},l.Pairwise (·<·)->m.Pairwise (·<·)->(∀ x,x∈l↔x∈m)->l=m:=by
 intro l
 induction l with
 |nil =>
  intro m _ _ h;cases m with
  |nil=>rfl
  |cons y s=>exact absurd ((h y).2 sM) sM
 |cons x r ih =>
  intro m hl hm h;cases m with
  |nil=>exact absurd ((h x).1 sM) sM
  |cons y s =>
   rw [List.pairwise_cons] at hl hm;have e:x=y:=by
    have a:=(h x).1 sM;have b:=(h y).2 sM;rcases List.mem_cons.1 a with a|a
    ·exact a
    ·rcases List.mem_cons.1 b with b|b
     ·exact b.symm
     ·have:=hl.1 y b;have:=hm.1 x a;omega
   subst e;rw [ih hl.2 hm.2 fun z=>?_];have c:=h z;simp only [List.mem_cons] at c;constructor
   ·intro a;have:=hl.1 z a;rcases c.1 (Or.inr a) with b|b
    ·omega
    ·exact b
   ·intro a;have:=hm.1 z a;rcases c.2 (Or.inr a) with b|b
    ·omega
    ·exact b
def chE (es:List Edg) (q l:Nat):List Nat:=(es.filter fun e=>e.fr==(q:Int)&&e.le==(l:Int)).map fun e=>e.ta.toNat
theorem chE_cho (hf:Few p es)(hp:p<=16)(hr:zgF es) (q l:Nat):chE es q l=letters (succ es q l) 32:=by
 refine asc_ext ?_ (zhZ _ _) fun x=>?_
 ·have c:=rising_pw.1 hr;rw [chE,List.pairwise_map,List.pairwise_filter];refine c.imp_of_mem fun {a b} ha hb hab d h3=>?_;simp only [dI,beq_iff_eq] at d h3;have:=ltE_iff.1 hab;have:=hf a ha;have:=hf b hb;omega
 ·rw [zG,zcO,chE,List.mem_map];simp only [List.mem_filter,dI,beq_iff_eq];constructor
  ·rintro ⟨e,⟨c,d⟩,rfl⟩;have:=hf e c;exact⟨oM,e,c,d,rfl⟩
  ·rintro ⟨_,e,c,d,rfl⟩;exact⟨e,⟨c,d⟩,rfl⟩
theorem chE_take {x:Edg}(h:es[k]?=some x) (q l:Nat):chE (es.take (k+1)) q l=chE (es.take k) q l++if x.fr=(q:Int)∧x.le=(l:Int) then [x.ta.toNat] else []:=by
 rw [dO,h];unfold chE;rw [eD,iQ,eK]
 congr 1
 by_cases hc:x.fr=(q:Int)∧x.le=(l:Int)
 ·rw [if_pos hc];simp [hc]
 ·rw [if_neg hc];have:(x.fr==(q:Int)&&x.le==(l:Int))=false:=by
   rw [eM];intro h;simp only [dI,beq_iff_eq] at h;exact hc h
  simp [this]
theorem chE_len (hf:Few p es)(hp:p<=16)(hr:zgF es) (q l k:Nat):(chE (es.take k) q l).length<=16:=by
 have a:(chE (es.take k) q l).Sublist (chE es q l):=((List.take_sublist k es).filter _).map _;refine dL a.length_le (dL (zdb (p:=p) ?_ ?_) hp)
 ·rw [chE_cho hf hp hr];exact zfp _ _
 ·intro x hx;obtain⟨e,b,rfl⟩:=List.mem_map.1 hx;have:=hf e (List.mem_filter.1 b).1;omega
theorem ret_one {y:Nat}(hx:Ext w W)(hb:Blk W g 3 #[.int .i64 (y:Nat)])(hg:w.heap.size<=g):zbM w [y] (.returned (.slice (some g) 1 1)) W:=
 ⟨some ⟨g,0,none⟩,1,rfl,⟨rfl,.inr ⟨g,1,_,rfl,hg,hb,by simp [zae,maxLen]⟩⟩,hx⟩
theorem zhG {us:List Aut}   {m:Mem}(h:zeY w PA pn AA an ss us)(hok:zdk ss us)(hm:(zbf ss us)[i]?=some m)(hq:q<m.1)(hl:l<6) :
  Calls Tryz.prog 298 #[.agg #[.slice PA pn pc,.slice AA an ac,sv,L,K,G],i,q,l] w (zbM w (m.2 q l)):=by
 have d:Ext w (w.alloc (.cells #[.slice PA pn pc,.slice AA an ac,sv,L,K,G] 185)):=(dB w).alloc _;have H:=dX w 185 #[.slice PA pn pc,.slice AA an ac,sv,L,K,G];have HN:=za (fun W (hW:Ext w W)=>h.ext hW);have r:Hid (pn=ss.length):=by obtain⟨_,_,h1⟩:=h.sys;exact h1.1
 have Q:Hid (an=us.length):=by obtain⟨_,_,h1⟩:=h.aut;exact h1.1
 have a3:pn<=3:=by rw [r.out];exact hok.few
 have aY:an<=2:=by rw [Q.out];exact hok.few'
 by_cases hip:i<pn
 ·have V:ss[i]?=some (ss[i]'(by rw [← r.out];exact hip)):=dD _;generalize ss[i]'(by rw [← r.out];exact hip)=s at V;obtain rfl:m=zdA s:=by
   rw [zbf,dJ (by simp;have:=r.out;omega),dS,V] at hm;exact (Option.some.inj hm).symm
  have hv:=hok.sys s (dC V);obtain⟨F,aA,_,C⟩:=zdS.1 hv;obtain⟨p,hp,a2,T,hf⟩:=zbl hv;obtain⟨J,E⟩:∃ J:Nat,Hid (s.al=J):=⟨s.al.toNat,by unfold Hid;omega⟩;have X:Sm J:=by have:=E.out;unfold Sm;omega
  have U:=za (show (zdA s).2 q l=if J.testBit l then chE s.edges q l else [q] by
   rw [chE_cho hf T C];simp only [zdA,cho];rw [E.out,Int.toNat_natCast])
  have Hs:=za V;have ai:=za (chE_len hf T C q l);have Hf:=za hf;clear V hv F aA C hf hm hok h hq;rw [U.out];cases hb:J.testBit l
  ·have Hb:=za hb;clear hb
   go_enter Tryz.func298,Tryz.ntmps298
   go_upto_region 1 with fail
   generalize w.alloc _=y at *;have c0:=H.cell;obtain⟨lo,hi,D⟩:=(HN.out y d).sys;obtain⟨b,o,s',B,n,c',rfl,_,_,M,O,e1,e2,u⟩:=D.sys hip;obtain rfl:s=s':=by have:=M.out;rw [Hs.out] at this;exact Option.some.inj this
   rw [E.out] at O;clear e1 D u;go_wp2_with (go_at_call 143;with_reducible refine (zau J l X _ oM).mono ?_;rw [Hb.out];rintro e w' ⟨rfl,rfl⟩)
   go_ret;exact ret_one (d.alloc _) (dX _ _ _) d.size
  ·have Hb:=za hb;clear hb;simp only [if_true]
   go_enter Tryz.func298,Tryz.ntmps298
   go_upto_region 1 with fail
   generalize w.alloc _=y at *;have c0:=H.cell;obtain⟨lo,hi,D⟩:=(HN.out y d).sys;obtain⟨b,o,s',B,n,c',rfl,_,_,M,O,e1,e2,u⟩:=D.sys hip;obtain rfl:s=s':=by have:=M.out;rw [Hs.out] at this;exact Option.some.inj this
   rw [E.out] at O;have ao:=za u.1;have HR:=za (fun W (hW:Ext y W)=>u.2.ext hW);have a1:=u.2.len;clear e1 D u;go_upto_region 6 with (go_at_call 143;with_reducible refine (zau J l X _ oM).mono ?_;rw [Hb.out];rintro e w' ⟨rfl,rfl⟩)
   have Y:w.heap.size<=y.heap.size:=d.size;have ae:=World.ownsRow_lit (base:=y.heap.size) (e:=3) (size:=1) y #[] 0 (dE _) lM rfl;generalize U0:y.alloc _=w2 at *;have I:=Ext.al_ U0;have aq:=(H.ext I).cell;have ar:=I.aa e2;clear U0;clear c0 O e2;go_wp2_with fail
   go_loopw [9,11] (fun v j wr=>∃ k:Nat,k<=n∧j=.int .i64 k∧wr.ownsRow y.heap.size 3 1 v (chE (s.edges.take k) q l).length (zae (chE (s.edges.take k) q l))∧Ext y wr) (fun _ j _=>n - (intOf j).toNat)
   case atStart=>exact⟨0,dG _,rfl,ae,I⟩
   case round =>
    clear ae aq ar I;obtain⟨k,hk,rfl,z,Z⟩:=hrel
    by_cases hlt:k<n
    ·obtain⟨b',o',x,rfl,_,_,ab,d0,d1,d2⟩:=(HR.out wr Z).az hlt;obtain⟨⟨f0,f1⟩,⟨l0,l1⟩,⟨t0,t1⟩⟩:=Hf.out x (dC ab.out);have g:=za (chE_take ab.out q l);have aO:=ai.out k
     by_cases hfr:x.fr=(q:Int)
     ·by_cases hle:x.le=(l:Int)
      ·obtain⟨t,ht⟩:∃ t:Nat,x.ta=t:=⟨x.ta.toNat,oM⟩;rw [hfr] at d0;rw [hle] at d1;rw [ht] at d2;have f:=za (show chE (s.edges.take (k+1)) q l=chE (s.edges.take k) q l++[t] by rw [g.out,if_pos ⟨hfr,hle⟩,ht];rfl);clear hfr hle f0 f1 l0 l1 t0 t1 ht g;generalize chE (s.edges.take k) q l=cs at *;go_wp2_with (at_builtin;refine zU y wr rfl _ _ _ rfl 3 _ 1 8 Tryz.underlying110 zS rfl dM u9 _ _ _ _ rfl rfl Z z rfl (zaL _) lM oM ?_;intro v' w5 hext5 zjq hg5 hat5)
       go_roundw
       case rel=>exact⟨k+1,oM,gM,by rw [f.out,dN,zdJ];exact zjq,hext5⟩
       case measure=>simp [intOf];omega
      ·have az:(x.le==(l:Int))=false:=by simp;omega
       have f:=za (show chE (s.edges.take (k+1)) q l=chE (s.edges.take k) q l by rw [g.out,if_neg (fun h=>hle h.2),gY]);rw [hfr] at d0;clear hfr hle f0 f1 l0 l1 t0 t1 g;go_wp2_with fail
       go_roundw
       case rel=>exact⟨k+1,oM,gM,by rw [f.out];exact z,Z⟩
       case measure=>simp [intOf];omega
     ·have az:(x.fr==(q:Int))=false:=by simp;omega
      have f:=za (show chE (s.edges.take (k+1)) q l=chE (s.edges.take k) q l by rw [g.out,if_neg (fun h=>hfr h.1),gY]);clear hfr f0 f1 l0 l1 t0 t1 g;go_wp2_with fail
      go_roundw
      case rel=>exact⟨k+1,oM,gM,by rw [f.out];exact z,Z⟩
      case measure=>simp [intOf];omega
    ·obtain rfl:n=k:=oM;have ad:=za (show wr.ownsRow w.heap.size 3 1 u9 (chE s.edges q l).length (zae (chE s.edges q l)) by
      rw [dK (oH ao.out)] at z;exact zn z Y)
     obtain⟨A5,c5,rfl⟩:=zg ad.out;have aE:=d.trans Z;clear z;go_wp2;go_ret;exact⟨_,_,rfl,ad.out,aE⟩
 ·obtain⟨j,hj⟩:∃ j,i=pn+j:=⟨i - pn,oM⟩;subst hj;have S:us[j]?.map zbW=some m:=by
   rw [zbf,dP (by simp;have:=r.out;omega),dS] at hm;rw [← hm]
   congr 2
   simp;have:=r.out;omega
  obtain⟨a,E,rfl⟩:=Option.map_eq_some_iff.1 S;have ay:j<an:=by rw [Q.out];exact (List.getElem?_eq_some_iff.1 E).1
  have aD:=za (hok.aut a (dC E));have Ha:=za E;have Hq:=za (show q<a.next.length from hq);clear hm S E hok h hq;change Calls _ _ _ _ (zbM w [aGo a q l])
  go_enter Tryz.func298,Tryz.ntmps298
  go_upto_region 1 with fail
  generalize w.alloc _=y at *;have c0:=H.cell;obtain⟨lo,hi,F⟩:=(HN.out y d).aut;obtain⟨b,o,a',B,m,c,B',m',c',rfl,ax,O,e1,e2,R⟩:=F.aut ay;obtain rfl:a=a':=by have:=ax.out;rw [Ha.out] at this;exact Option.some.inj this
  have aZ:¬ ((pn+j:Nat):Int)<(pn:Int):=oM;have a4:((pn+j:Nat):Int) - (pn:Int)=(j:Int):=oM;have ak:=za R;clear F R;go_wp2_with (go_at_call 225;with_reducible refine (zdh ak.out aD.out Hq.out hl).mono (mQ fun w5 aa=>?_))
  go_ret;exact ret_one ((d.trans aa).alloc _) (dX _ _ _) ((d.trans aa).size)
theorem zgp (n:Nat)(h:n<9223372036854775808):IntKind.i64.wrap (n:Int)=(n:Int):=by rw [IntKind.wrap_i64];omega
theorem chs_fst (ms:List Mem) (x l:Nat):(chs ms x l).map Prod.fst=ms.map Prod.fst:=by
 induction ms with
 |nil=>rfl
 |cons m r ih=>simp [chs,ih]
theorem zdk.choices {us:List Aut}(h:zdk ss us) {m:Mem}(hm:m∈zbf ss us) (hq:q<m.1)(hl:l<6):(∀ x∈m.2 q l,x<m.1)∧(m.2 q l).length<=m.1:=by
 refine⟨(h.ok m hm).2 q l hq hl,?_⟩;rcases List.mem_append.1 hm with b|b
 ·obtain⟨s,d,rfl⟩:=List.mem_map.1 b;exact cho_len (zbZ (h.sys s d)) hq
 ·obtain⟨a,c,rfl⟩:=List.mem_map.1 b;have:=(zl (h.aut a c)).2.1.1;simp only [zbW];simpa using this
theorem zdk.fwd_ {us:List Aut}(h:zdk ss us) (x:Nat) (hl:l<6) (k:Nat):(fwd ((chs (zbf ss us) x l).take k)).length<=1048576∧∀ y∈fwd ((chs (zbf ss us) x l).take k),y<1048576:=by
 have d:∀ c∈(chs (zbf ss us) x l).take k,(∀ y∈c.2,y<c.1)∧c.2.length<=c.1:=by
  intro c d;obtain⟨i,f⟩:=eB (gU d);have a:=(List.getElem?_eq_some_iff.1 f).1;rw [zfJ] at a;have j:(zbf ss us)[i]?=some (zbf ss us)[i]:=dD a;rw [chs_get j] at f;obtain rfl:=Option.some.inj f;have b:=e9 a;exact h.choices b (Nat.mod_lt _ (h.ok _ b).1) hl
 have g:=(h.total (((chs (zbf ss us) x l).take k).map Prod.fst) (by rw [← zfq,← chs_fst _ x l];exact (List.take_sublist _ _).map _)).2;refine⟨dL (fwd_len fun c hc'=>(d c hc').2) g,fun y hy=>dY (fwd_lt (fun c hc'=>(d c hc').1) y hy) g⟩
theorem spec_l4Nexts {TA:Option Addr} {tc:Nat}    {us:List Aut}  (h:zeY w PA pn AA an ss us)(hok:zdk ss us)(hS:Lst zbs w lo hi SA (szs ss us))(hT:Lst zbs w lo' hi' TA (dec (szs ss us) x))(hn:(szs ss us).length=n)(hl:l<6) :
  Calls Tryz.prog 275 #[.agg #[.slice PA pn pc,.slice AA an ac,sv,L,K,G],.slice SA n sc,.slice TA n tc,l] w (zbM w (pnx (zbf ss us) x l)):=by
 obtain⟨E,U0⟩:∃ x,Hid (w.alloc (.cells #[.slice PA pn pc,.slice AA an ac,sv,L,K,G] 185)=x):=⟨_,za rfl⟩;have ak:Ext w E:=((dB w).alloc _).trans (Ext.eq_ U0.out);have aW:=Ext.bl_ U0.out;have HN:=za (fun W (hW:Ext w W)=>h.ext hW);have HS:=za (fun W (hW:Ext w W)=>hS.ext zbs.ok hW);have HT:=za (fun W (hW:Ext w W)=>hT.ext zbs.ok hW);have aU:=za hok;have bw:n<=5:=by rw [← hn];exact hok.len
 have U:(chs (zbf ss us) x l).length=n:=by rw [zfJ,← hn,← zfq,dQ]
 have aS:=za (hok.fwd_ x hl);have ar:=za (show ∀ k,k<n->∃ m,(zbf ss us)[k]?=some m∧(szs ss us)[k]?=some m.1∧(dec (szs ss us) x)[k]?=some (x / zJ ((zbf ss us).drop (k+1)) % m.1)∧(chs (zbf ss us) x l)[k]?=some (m.1,m.2 (x / zJ ((zbf ss us).drop (k+1)) % m.1) l)∧1<=m.1∧m.1<=16 from fun k hk=>by
  have ab:k<(zbf ss us).length:=by rw [← zfJ _ x l,U];exact hk
  have F:(zbf ss us)[k]?=some (zbf ss us)[k]:=dD ab;have hz:(szs ss us)[k]?=some ((zbf ss us)[k]).1:=by rw [← zfq,dS,F];rfl
  refine⟨_,F,hz,?_,chs_get F,hok.le16 _ (dC hz)⟩;rw [zit hz,← zfq,← List.map_drop];rfl)
 have aq:=za (fwd_pnx (zbf ss us) x l);have aR:=za (fun (m:Mem) (F:m∈zbf ss us) (q l:Nat) (hq:q<m.1) (hl:l<6)=>hok.choices F hq hl);clear h hS hT hok;generalize hK:chs (zbf ss us) x l=KK at *;have au:=za U;have bj:=za hn;clear hK U hn
 go_enter Tryz.func275,Tryz.ntmps275
 go_upto_region 1 with fail
 rw [U0.out] at *;go_upto_region 2 with fail
 have aK:=(dB E).alloc (.cells #[(0:Int)] 3);have aH:w.heap.size<=E.heap.size:=ak.size;have aO:=World.ownsRow_lit (base:=E.heap.size) (e:=3) (size:=1) E #[(0:Int)] 1 (dE _) lM rfl;generalize hg1:(some ⟨E.heap.size,0,none⟩:Option Addr)=A1 at *;clear hg1;generalize E.alloc _=w2 at *;go_wp2_with fail
 go_loopw [9,10,11,12,13,14] (fun v i _ _ _ _ wr=>∃ (k:Nat) (c:List Nat),i=.int .i64 k∧k<=n∧Hid (c=fwd (KK.take k))∧wr.ownsRow E.heap.size 3 1 v c.length (zae c)∧Ext E wr) (fun _ i _ _ _ _ _=>n - (intOf i).toNat)
 case atStart=>exact⟨0,[0],rfl,dG _,rfl,by simpa [zae] using aO,aK⟩
 case round =>
  clear aO aK;obtain⟨k,c,rfl,hk,B,J,hx⟩:=hrel;obtain⟨A0,c0,rfl⟩:=zg J
  by_cases hlt:k<n
  ·obtain⟨m,F,hz,hd,hc,aB,S⟩:=ar.out k hlt;have Hm:=za F;have Hc:=za hc;obtain⟨aZ,af⟩:=aS.out k;rw [← B.out] at aZ af;have aT:=za af;obtain⟨q,hq⟩:∃ q:Nat,Hid (x / zJ ((zbf ss us).drop (k+1)) % m.1=q):=⟨_,rfl⟩;have ah:q<m.1:=by rw [← hq.out];exact Nat.mod_lt _ aB
   obtain⟨O,Q⟩:=aR.out m (dC F) q l ah hl;have u:=za O;rw [hq.out] at hd;have T:=za (show KK[k]?=some (m.1,m.2 q l) by rw [Hc.out,hq.out]);obtain⟨s,aG⟩:∃ s:Nat,Hid (m.1=s):=⟨_,rfl⟩;obtain⟨p,V⟩:∃ p:List Nat,Hid (m.2 q l=p):=⟨_,rfl⟩;have ab:k<(dec (szs ss us) x).length:=(List.getElem?_eq_some_iff.1 hd).1;have al:=ak.trans hx;obtain⟨bt,ot,q',rfl,_,_,H,az⟩:=(HT.out wr al).num ab;obtain rfl:q=q':=by have:=H.out;rw [hd] at this;exact Option.some.inj this
   obtain⟨bz,oz,z',rfl,_,_,aN,Y⟩:=(HS.out wr al).num (List.getElem?_eq_some_iff.1 hz).1;obtain rfl:m.1=z':=by have:=aN.out;rw [hz] at this;exact Option.some.inj this
   have av:=za ah;rw [aG.out] at Y aB S Q;rw [V.out] at Q u;rw [aG.out] at u T;rw [V.out] at T;have aj:=za (show fwd (KK.take (k+1))=c.flatMap fun o=>p.map fun y=>o*s+y by
    rw [dO,T.out,eD,zix,← B.out])
   have CT:∀ W,Ext wr W->W.cell? ⟨bt,ot+k,none⟩=some (.int .i64 (q:Nat)):=fun W hW=>hW.aa az;have CB:∀ W,Ext wr W->∀ j,W.cell? ⟨w.heap.size,j,none⟩=#[Value.slice PA pn pc,.slice AA an ac,sv,.int .i64 L,.int .i64 K,.int .i64 G][j]?:=fun W hW=>((aW.ext hx).ext hW).cell;have CC:=za (show ∀ W,Ext wr W->Calls Tryz.prog 298 #[.agg #[.slice PA pn pc,.slice AA an ac,sv,L,K,G],k,q,l] W (zbM W p) from fun W hW=>by
    have:=zhG (pc:=pc) (ac:=ac) (sv:=sv) (L:=L) (K:=K) (G:=G) (HN.out W (al.trans hW)) aU.out Hm.out av.out hl;rw [V.out] at this;exact this)
   have bu:(k:Int)<(n:Int):=oM;have ai:=dB wr;clear az aN H hz hd hc F ah O af av;go_upto_region 5 with fail
   refine uR (fun X=>Ext wr X) [7] (zw.of [0,1,2,3,4,5,6,7,8]) ?_;refine uQ ?_;refine zb fun K hK=>?_;go_simp;refine (CC.out _ ai.drew).mono ?_;rintro e r ⟨A4,c4,rfl,C,aL⟩;refine hK.out _ _ ?_;refine pT ?_;refine uQ ?_;refine ze ?_;have I:Ext wr r:=ai.drew.trans aL;have aw:=Lst.ai C;have ay:=(Lst.ai J).ext zbs.ok I;have R:=I.aa Y;clear CT CB CC ai C aL Y;go_upto_region 7 with fail
   have d:=(dB r).alloc (.cells #[] 3);have f:=World.ownsRow_lit (base:=r.heap.size) (e:=3) (size:=1) r #[] 0 (dE _) lM rfl;generalize hg1:(some ⟨r.heap.size,0,none⟩:Option Addr)=A5 at *;clear hg1;generalize r.alloc _=w5 at *;have M:=za (fun W (hW:Ext r W)=>ay.ext zbs.ok hW);have ax:=za (fun W (hW:Ext r W)=>aw.ext zbs.ok hW);have aV:=za (fun W (hW:Ext r W)=>hW.aa R);clear ay aw R;go_wp2_with fail
   go_loopw [12,13,14] (fun v i _ wr=>∃ (a:Nat) (t:List Nat),i=.int .i64 a∧a<=c.length∧Hid (t=(c.take a).flatMap fun o=>p.map fun y=>o*s+y)∧wr.ownsRow r.heap.size 3 1 v t.length (zae t)∧Ext r wr) (fun _ i _ _=>c.length - (intOf i).toNat)
   case atStart=>exact⟨0,[],rfl,dG _,by simp [Hid],by simpa [zae] using f,d⟩
   case round =>
    clear f d;obtain⟨a,t,rfl,ha,ae,f,d⟩:=hrel
    by_cases hla:a<c.length
    ·obtain⟨bo,oo,o,rfl,_,_,ho,aX⟩:=(M.out _ d).num hla;have ba:=aT.out o (dC ho.out);have bx:t.length<=16777216:=by
      rw [ae.out];refine dL (flat_len (k:=p.length) fun z _=>sM) ?_;rw [eT];have:=eR (show min a c.length<=1048576 by omega) (show p.length<=16 by omega);omega
     have a0:=za (show ((c.take (a+1)).flatMap fun o=>p.map fun y=>o*s+y)=t++p.map fun y=>o*s+y by
      rw [dO,ho.out,ae.out];simp)
     clear aX;go_wp2_with fail
     go_loopw [12,14] (fun v i wr=>∃ (b:Nat) (D:List Nat),i=.int .i64 b∧b<=p.length∧Hid (D=t++(p.take b).map fun y=>o*s+y)∧wr.ownsRow r.heap.size 3 1 v D.length (zae D)∧Ext r wr) (fun _ i _=>p.length - (intOf i).toNat)
     case atStart=>exact⟨0,t,rfl,dG _,by simp [Hid],f,d⟩
     case round =>
      clear f d;obtain⟨b,D,rfl,hb,ad,f,d⟩:=hrel
      by_cases hlb:b<p.length
      ·obtain⟨bc,oc,y,rfl,_,_,hy,aA⟩:=(ax.out _ d).num hlb;have be:=u.out y (dC hy.out);have a9:D.length<=16777216+16:=by rw [ad.out,dN,dQ,eT];omega
       have aC:o*s<=1048576*16:=eR oM S;obtain⟨os,ag⟩:∃ z:Nat,Hid (o*s=z):=⟨_,rfl⟩;have bb:(o:Int)*(s:Int)=(os:Int):=by rw [← ag.out];exact (fJ o s).symm
       rw [ag.out] at aC;have aF:=za (show (t++(p.take (b+1)).map fun y=>o*s+y)=D++[os+y] by
        rw [dO,hy.out,ad.out,← ag.out];simp)
       have C1:∀ W,Ext wr W->W.cell? ⟨bo,oo+a,none⟩=some (.int .i64 (o:Nat)):=fun W hW=>(M.out W (d.trans hW)).num2 ho.out;have C2:=fun W (hW:Ext wr W)=>aV.out W (d.trans hW);have C3:∀ W,Ext wr W->W.cell? ⟨bc,oc+b,none⟩=some (.int .i64 (y:Nat)):=fun W hW=>hW.aa aA;have br:(a:Int)<(c.length:Int):=oM;have bs:(b:Int)<(p.length:Int):=oM;have aI:=dB wr;clear aA;go_upto_region 13 with fail
       refine uR (fun X=>Ext wr X) [15,16] (zw.of [0,1,2,3,4,5,6,7,8,9,10,11,12,13,14,15,16,17]) ?_;refine uQ ?_;refine zd fun K hK=>?_;go_simp;refine hK.out _ _ (aI.drew.alloc _) ?_;refine pT ?_;refine zb fun K hK=>?_;refine zaE r wr.drew _ _ _ rfl 3 _ 1 8 Tryz.underlying110 zS rfl dM u12 D.length (zae D) _ _ rfl rfl (d.drew).size f rfl (zaL _) lM oM ?_;intro g5 cap5 w6 g hg6 hat6 hlt6;have a1:IntKind.i64.wrap (IntKind.i64.wrap (os:Int)+(y:Int))=((os+y:Nat):Int):=by rw [zgp os oM,← Int.natCast_add,zgp (os+y) oM]
       rw [a1] at g;refine hK.out _ _ ?_;refine pT ?_;refine uQ ?_;refine ze ?_;have am:Ext r w6:=d.drew.grown hg6 (fun q' H=>(f.lt q' H).1);go_wp2_with fail
       go_roundw
       case rel=>exact⟨b+1,D++[os+y],gM,oM,by unfold Hid;rw [aF.out],by rw [dN,zdJ];exact g,am⟩
       case measure=>simp [intOf];omega
      ·obtain rfl:b=p.length:=oM;have Z:=za (show D=t++p.map fun y=>o*s+y by rw [ad.out,eI]);go_wp2_with fail
       go_roundw
       case rel=>exact⟨a+1,D,gM,oM,by unfold Hid;rw [a0.out,Z.out],f,d⟩
       case measure=>simp [intOf];omega
    ·obtain rfl:a=c.length:=oM;have aa:=za (show t=fwd (KK.take (k+1)) by rw [aj.out,ae.out,eI]);have am:=hx.trans (I.trans d);have g:=zn f (show E.heap.size<=r.heap.size from (hx.trans I).size);go_wp2_with fail
     go_roundw
     case rel=>exact⟨k+1,t,gM,oM,aa,g,am⟩
     case measure=>simp [intOf];omega
  ·obtain rfl:n=k:=oM;have a3:=za (show c=pnx (zbf ss us) x l by rw [B.out,dK (oH au.out)];exact aq.out);have aE:=za (show zbM w (pnx (zbf ss us) x l) (.returned (.slice A0 c.length c0)) wr from by
    rw [← a3.out];exact⟨A0,c0,rfl,zn J aH,ak.trans hx⟩)
   clear J;go_wp2;go_ret;exact aE.out
end Go.Proofs.YtckbjnndaaoddaaGreatDoor
