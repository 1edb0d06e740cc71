/- spec.l4Close -/
import Derived.Test.YtckbjnndaaoddaaGreatDoorT03
set_option maxHeartbeats 8000000
set_option maxRecDepth 100000
namespace Go.Proofs.YtckbjnndaaoddaaGreatDoor
open Go Go.RowKit
open Bool renaming and_eq_true->dI,and_false->jL,false->kK,true->kC
open Ext renaming refl->dB
open Frm renaming setCell->dG
open Int renaming natCast_add->gV,natCast_ediv->iZ,natCast_emod->iB,natCast_mul->gU,toNat_natCast->eT
open List renaming append_nil->iA,drop_eq_getElem_cons->gG,eq_nil_of_length_eq_zero->eE,getD_eq_getElem?_getD->dF,getElem?_append_right->eD,getElem?_eq_getElem->dE,getElem?_map->eC,getElem?_range->gQ,length_append->eA,length_map->eF,length_replicate->jX,length_take->e9,map_append->eU,map_congr_left->iW,map_cons->gF,map_map->iD,map_nil->j3,map_set->iX,mem_append->iH,mem_of_getElem?->dC,mem_of_mem_drop->j0,mem_singleton->fB,range->fM,replicate->eG,set_append_right->jF,take_add_one->eB,take_length->eZ,take_of_length_le->dK,getElem?_eq_some_iff->kT,mem_map->kW,pairwise_iff_getElem->lI
open Nat renaming add_zero->iI,div_le_self->iU,le_mul_of_pos_right->kE,le_refl->dD,le_trans->dW,mod_lt->iM,mul_le_mul->fK,or_lt_two_pow->eX,pow_le_pow_right->eL,sub_self->gK,zero_add->eK,zero_le->dH
open Option renaming map_eq_some_iff->fW,map_some->iV,toList_some->eS,none->gP,some->gO
open Reads renaming af->eQ
open Go renaming Calls->kQ,Value->kL,World->kJ
open Go.Ending renaming returned->kP
open Go.IntKind renaming i64->kA
open Go.Value renaming agg->kO,bool->kR,pointer->kV,slice->fQ
open Option.some renaming inj->kS
open _root_.Go.Proofs.Tryz renaming prog->kN
variable {A AA B B' M PA RA SA UA:Option Addr}{G L:Int}{N ac an base c d d' dm g10 g11 g12 g13 g4 g5 g8 ga hi hi' j k l lo lo' m m' n pc pn q r rc sc sn uc x:Nat}{R st xs:List Nat}{a p:Aut}{mv sv:kL}{s:Sys}{ss:List Sys}{w w':kJ}
theorem lbs_snoc (v:List Nat) (l:Nat):lbs (v++[l])=lbs v++[((97+l:Nat):Int)]:=by simp [lbs]
theorem zhg (a b:List Int):strOfNums (a++b)=strOfNums a++strOfNums b:=by
 apply ByteArray.ext;simp [strOfNums,ByteArray.data_append]
def wstr (v:List Nat):ByteArray:=strOfNums (lbs v)
theorem wstr_snoc (v:List Nat) (l:Nat):wstr (v++[l])=wstr v++strOfNums [((97+l:Nat):Int)]:=by rw [wstr,lbs_snoc,zhg];rfl
theorem zis (v:List Nat):(wstr v).size=v.length:=by rw [wstr,strOfNums_size];simp [lbs]
theorem zfu (h1:l<6) :
  kQ kN 138 #[l] w fun e w'=>e=kP (.string (strOfNums [((97+l:Nat):Int)]))/\Ext w w':=by
 have b:=zjD w;have a:IntKind.u8.wrap (97+(l:Int))=((97+l:Nat):Int):=by rw [IntKind.wrap_u8];omega
 go_enter Tryz.func138,Tryz.ntmps138
 go_wp2;go_ret;exact⟨by first|rfl|(rw [a];rfl)|simp [a],(dB _).alloc _⟩
def RetClo (w:kJ) (d:Nat->Nat->List Nat) (ds:List Int) (at_:List Nat) (l:Nat) (r:Int) (N:Nat) (e:Ending) (w':kJ):Prop:=
 ∃ nx:List Nat,zci w nx e w'/\Hid (nx.length<=N/\∀ x,x∈nx↔∃ n∈at_,x∈d n l/\ds[x]?=gO r)
theorem zkg {lo2 hi2 c' c2:Nat}{C:Option Addr}{d:Nat->Nat->List Nat}{L:List Nat}{ds:List Int}{at_:List Nat}{r:Int}(h:Lst P3 w lo hi A (mvs d L N))(h':Lst IntP w lo' hi' B ds)(h2:Lst zbA w lo2 hi2 C at_)(hm:at_.length=m)(hat:∀ n∈at_,n<N)(hl:L[k]?=gO l)(hds:ds.length=N)(hN:N<=1048576)(hd:∀ x l,x<N->l∈L->∀ y∈d x l,y<N) :
  kQ kN 221 #[fQ A N c,fQ B N c',fQ C m c2,k,r] w (RetClo w d ds at_ l r N):=by
 have HM:=za (fun W (hW:Ext w W)=>h.ext P3.ok hW);have HD:=za (fun W (hW:Ext w W)=>h'.ext IntP.ok hW);have HA:=za (fun W (hW:Ext w W)=>h2.ext zbA.ok hW);have Hd:=za (fun x o=>hd x l o (dC hl));have ag:=za hat;have Hl:=za hl;have Hm:=za hm;have G:=za hds;have ak:=h2.len;rw [hm] at ak;have ai:k<L.length:=(kT.1 hl).1;have O:∀ n,n<N->(L.map fun l=>d n l)[k]?=gO (d n l):=fun n _=>by rw [eC,hl];rfl
 have af:=za O;clear h h' h2 hd hat hl hm hds O
 go_enter Tryz.func221,Tryz.ntmps221
 go_upto_region 2 with fail
 have aa:=(dB w).alloc (.cells #[] 3);have u:=World.ownsRow_lit (base:=w.heap.size) (e:=3) (size:=1) w #[] 0 (dD _) lM rfl;generalize hg1:(gO ⟨w.heap.size,0,gP⟩:Option Addr)=A1 at *;clear hg1;generalize w.alloc _=w0 at *;go_wp2_with fail
 go_loopw [11,12,13,14] (fun v i _ _ wr=>∃ (a:Nat) (f:List Nat),i=.int kA a/\a<=m/\Hid (f.Nodup/\∀ x,x∈f↔∃ n∈at_.take a,x∈d n l/\ds[x]?=gO r)/\wr.ownsRow w.heap.size 3 1 v f.length (zag f)/\Ext w wr) (fun _ i _ _ _=>m - (intOf i).toNat)
 case atStart=>exact⟨0,[],rfl,dH _,(show Hid _ from ⟨sM,sM⟩),by simpa [zag] using u,aa⟩
 case round =>
  clear u aa;obtain⟨a,f,rfl,ha,b,g,o⟩:=hrel;obtain⟨A0,M,rfl⟩:=zi g
  by_cases hlt:a<m
  ·obtain⟨ba,oa,n,rfl,_,_,hn,Q⟩:=(HA.out w (dB _)).num (show a<at_.length by rw [Hm.out];exact hlt);have D:=ag.out n (dC hn.out);obtain⟨bm,om,v,ad,rfl,_,_,Y,S,Ar,cr,rfl,Z⟩:=(HM.out w (dB _)).get (show n<(mvs d L N).length by rw [zdR];exact D);have E:=za (show ad=L.map fun l=>d n l by
    have p:=Y.out;rw [mvs,eC,gQ D] at p;exact (kS p).symm)
   have aj:k<ad.length:=by rw [E.out,eF];exact ai
   obtain⟨br,aG,v,s,rfl,_,_,an,U,Ay,cy,rfl,J⟩:=Z.get aj;have F:=za (show s=d n l by
    have p:=an.out;rw [E.out,af.out n D] at p;exact (kS p).symm)
   have aq:=J.len;have HY:=za (fun W (hW:Ext w W)=>J.ext zbA.ok hW);have ab:=za (show ∀ y∈s,y<N by rw [F.out];exact Hd.out n D);have al:=za (show at_.take (a+1)=at_.take a++[n] by rw [eB,hn.out];rfl);have R:=o.aa Q;have T:=o.aa S;have V:=o.aa U;clear J Q S U Z;go_wp2_with fail
   clear R T V
   go_loopw [11,14] (fun v i wr2=>∃ (j:Nat) (f:List Nat),i=.int kA j/\j<=s.length/\Hid (f.Nodup/\∀ x,x∈f↔(∃ n∈at_.take a,x∈d n l/\ds[x]?=gO r)\/(x∈s.take j/\ds[x]?=gO r))/\wr2.ownsRow w.heap.size 3 1 v f.length (zag f)/\Ext w wr2) (fun _ i _=>s.length - (intOf i).toNat)
   case atStart=>exact⟨0,f,rfl,dH _,(show Hid _ from ⟨b.out.1,fun x=>by rw [b.out.2 x];simp⟩),g,o⟩
   case round =>
    clear g o b;obtain⟨j,f,rfl,hj,b,g,o⟩:=hrel;obtain⟨A0,M,rfl⟩:=zi g
    by_cases hlj:j<s.length
    ·obtain⟨aC,oy,y,rfl,_,_,hy,aE⟩:=(HY.out _ o).num hlj;have am:=ab.out y (dC hy.out);obtain⟨bd,od,v,rfl,_,_,hv,aD⟩:=(HD.out _ o).int (show y<ds.length by rw [G.out];exact am);have I:=za (show s.take (j+1)=s.take j++[y] by rw [eB,hy.out];rfl)
     by_cases hvr:v=r
     ·have ah:=za (show ds[y]?=gO r by rw [hv.out,hvr]);subst hvr;have t:=Lst.ai g;have HI:=za (spec_l4In (c:=M) (x:=y) t rfl);have au:f.length<=N:=zfD b.out.1 fun x o=>by
       rcases (b.out.2 x).1 o with ⟨_,_,_,p⟩|⟨_,p⟩<;>· have:=(kT.1 p).1;rw [G.out] at this;exact this
      by_cases hin:y∈f
      ·have H:=za (show decide (y∈f)=kC by simp [hin]);have q:=za (show f.Nodup/\∀ x,x∈f↔(∃ n∈at_.take a,x∈d n l/\ds[x]?=gO v)\/(x∈s.take (j+1)/\ds[x]?=gO v) from ⟨b.out.1,fun x=>by
        rw [b.out.2 x,I.out,iH,fB];constructor
        ·rintro (h|⟨h,h'⟩)
         ·exact Or.inl h
         ·exact Or.inr ⟨Or.inl h,h'⟩
        ·rintro (h|⟨h|h,h'⟩)
         ·exact Or.inl h
         ·exact Or.inr ⟨h,h'⟩
         ·subst h;exact (b.out.2 x).1 hin⟩)
       clear t hin;go_wp2_with (go_at_call 278;with_reducible refine HI.out.mono ?_;rw [H.out];rintro e w4 ⟨rfl,rfl⟩)
       go_roundw
       case rel=>exact⟨j+1,f,gM,oM,q,g,o⟩
       case measure=>exact uM
      ·have H:=za (show decide (y∈f)=kK by simp [hin]);have q:=za (show (f++[y]).Nodup/\∀ x,x∈f++[y]↔(∃ n∈at_.take a,x∈d n l/\ds[x]?=gO v)\/(x∈s.take (j+1)/\ds[x]?=gO v) from ⟨List.nodup_append.2 ⟨b.out.1,sM,fun x o z hz e=>by simp at hz;subst hz;subst e;exact hin o⟩,fun x=>by
        rw [iH,fB,b.out.2 x,I.out,iH,fB];constructor
        ·rintro ((h|⟨h,h'⟩)|h)
         ·exact Or.inl h
         ·exact Or.inr ⟨Or.inl h,h'⟩
         ·subst h;exact Or.inr ⟨Or.inr rfl,ah.out⟩
        ·rintro (h|⟨h|h,h'⟩)
         ·exact Or.inl (Or.inl h)
         ·exact Or.inl (Or.inr ⟨h,h'⟩)
         ·exact Or.inr h⟩)
       clear t hin;go_wp2_with (first
        |(go_at_call 278;with_reducible refine HI.out.mono ?_;rw [H.out];rintro e w4 ⟨rfl,rfl⟩)
        |(at_builtin;refine zV w wr rfl _ _ _ rfl 3 _ 1 8 Tryz.underlying110 zT rfl dM (fQ A0 f.length M) _ _ _ _ rfl rfl o g rfl (zaJ _) lM oM ?_;intro v' w5 hext5 zkD hg5 hat5))
       go_roundw
       case rel=>exact⟨j+1,f++[y],gM,oM,q,by rw [eA,zeD];exact zkD,hext5⟩
       case measure=>exact uM
     ·have aF:(v==r)=kK:=by simp;omega
      have q:=za (show f.Nodup/\∀ x,x∈f↔(∃ n∈at_.take a,x∈d n l/\ds[x]?=gO r)\/(x∈s.take (j+1)/\ds[x]?=gO r) from ⟨b.out.1,fun x=>by
       rw [b.out.2 x,I.out,iH,fB];constructor
       ·rintro (h|⟨h,h'⟩)
        ·exact Or.inl h
        ·exact Or.inr ⟨Or.inl h,h'⟩
       ·rintro (h|⟨h|h,h'⟩)
        ·exact Or.inl h
        ·exact Or.inr ⟨h,h'⟩
        ·subst h;rw [hv.out] at h';exact absurd (kS h') hvr⟩)
      clear hvr;go_wp2_with fail
      go_roundw
      case rel=>exact⟨j+1,f,gM,oM,q,g,o⟩
      case measure=>exact uM
    ·obtain rfl:j=s.length:=oM;have q:=za (show f.Nodup/\∀ x,x∈f↔∃ n∈at_.take (a+1),x∈d n l/\ds[x]?=gO r from ⟨b.out.1,fun x=>by
      rw [b.out.2 x,eZ,F.out,al.out];constructor
      ·rintro (⟨z,p,h2⟩|⟨p,h2⟩)
       ·exact⟨z,by simp [p],h2⟩
       ·exact⟨n,sM,p,h2⟩
      ·rintro ⟨z,p,h2⟩;rcases List.mem_append.1 p with p|p
       ·exact Or.inl ⟨z,p,h2⟩
       ·rw [List.mem_singleton.1 p] at h2;exact Or.inr h2⟩)
     go_wp2_with fail
     go_roundw
     case rel=>exact⟨a+1,f,gM,oM,q,g,o⟩
     case measure=>exact uM
  ·obtain rfl:a=m:=oM;have X:=za (show RetClo w d ds at_ l r N (kP (fQ A0 f.length M)) wr from by
    refine⟨f,⟨A0,M,rfl,g,o⟩,(show Hid _ from ⟨zfD b.out.1 fun x o=>?_,fun x=>?_⟩)⟩
    ·obtain⟨_,_,_,p⟩:=(b.out.2 x).1 o;have:=(kT.1 p).1;rw [G.out] at this;exact this
    ·rw [b.out.2 x,dK (by rw [Hm.out];exact dD _)])
   clear g;go_wp2;go_ret;exact X.out
theorem zki {q':Nat}(h:zfL w PA pn AA an ss [a,p])(h':Lst zbA w lo hi SA st)(hsn:st.length=sn)(hq:st[pn]?=gO q)(hqa:q<a.acc.length)(hq':st[pn+1]?=gO q')(hqp:q'<p.acc.length) :
  kQ kN 217 #[kO #[fQ PA pn pc,fQ AA an ac,sv,L,(2:Int),G],fQ SA sn sc,mv] w fun e w'=>e=kP (.bool (zaC a q&&!zaC p q'))/\Ext w w':=by
 have g:∀ W,Ext w W->kQ kN 276 #[kO #[fQ PA pn pc,fQ AA an ac,sv,L,(2:Int),G],fQ SA sn sc,(0:Int)] W fun e w'=>e=kP (.bool (zaC a q))/\Ext W w':=
  fun W hW=>zie (i:=0) (a:=a) (q:=q) (st:=st) (us:=[a,p]) (h.ext hW) (h'.ext zbA.ok hW) hsn sM (by rw [iI];exact hq) hqa
 replace g:=za g;have j:∀ W,Ext w W->kQ kN 276 #[kO #[fQ PA pn pc,fQ AA an ac,sv,L,(2:Int),G],fQ SA sn sc,(1:Int)] W fun e w'=>e=kP (.bool (zaC p q'))/\Ext W w':=
  fun W hW=>zie (i:=1) (a:=p) (q:=q') (st:=st) (us:=[a,p]) (h.ext hW) (h'.ext zbA.ok hW) hsn sM hq' hqp
 replace j:=za j;clear h h' hsn hq hqa hq' hqp;generalize zaC a q=x at *;generalize zaC p q'=y at *
 go_enter Tryz.func217,Tryz.ntmps217
 have d:Ext w (w.alloc (.cells #[fQ PA pn pc,fQ AA an ac,sv,L,(2:Int),G] 185)):=(dB w).alloc _;have c:=Blk.new w 185 #[fQ PA pn pc,fQ AA an ac,sv,L,(2:Int),G];cases x
 all_goals
  go_upto_region 1 with fail
  generalize w.alloc _=o at *;have m:=c.cell;go_wp2_with (first
   |(go_at_call 276;with_reducible refine (g.out _ d).mono (mQ fun r f=>?_);have b:=d.trans f;have n:=(c.ext f).cell)
   |(go_at_call 276;with_reducible refine (j.out _ b).mono (mQ fun s l=>?_);have k:=b.trans l))
  go_ret;exact⟨zu sM,by first|exact k|exact b⟩
theorem zkj (h:zfL w PA pn AA an ss [p])(h':Lst zbA w lo hi SA st)(hsn:st.length=sn)(hq:st[pn]?=gO q)(hqa:q<p.acc.length) :
  kQ kN 217 #[kO #[fQ PA pn pc,fQ AA an ac,sv,L,(3:Int),G],fQ SA sn sc,mv] w fun e w'=>e=kP (.bool (!zaC p q))/\Ext w w':=by
 have c:∀ W,Ext w W->kQ kN 276 #[kO #[fQ PA pn pc,fQ AA an ac,sv,L,(3:Int),G],fQ SA sn sc,(0:Int)] W fun e w'=>e=kP (.bool (zaC p q))/\Ext W w':=
  fun W hW=>zie (i:=0) (a:=p) (q:=q) (st:=st) (us:=[p]) (h.ext hW) (h'.ext zbA.ok hW) hsn sM (by rw [iI];exact hq) hqa
 replace c:=za c;clear h h' hsn hq hqa;generalize zaC p q=x at *
 go_enter Tryz.func217,Tryz.ntmps217
 go_upto_region 1 with fail
 generalize U0:w.alloc _=k at *;obtain⟨b,d⟩:=Ext.x1_ U0;clear U0;have j:=d.cell;go_wp2_with (go_at_call 276;with_reducible refine (c.out _ b).mono (mQ fun l g=>?_);have f:=b.trans g)
 go_ret;exact⟨zu sM,f⟩
theorem prodS_snoc (l:List Nat) (x:Nat):zau (l++[x])=zau l*x:=by rw [zdu];simp [zau]
theorem encF_zero (sz:List Nat):∀ n,encF 0 sz (eG n 0)=0:=by
 have a:∀ (sz:List Nat) (n:Nat),encF 0 sz (eG n 0)=0:=by
  intro sz
  induction sz with
  |nil=>intro n;cases n<;>rfl
  |cons s r ih =>
   intro n;cases n with
   |zero=>rfl
   |succ n=>rw [List.replicate_succ,encF,Nat.zero_mul,eK];exact ih n
 exact a sz
def ds0 (goal:Nat->Bool) (k:Nat):List Int:=(fM k).map fun x=>if goal x then 0 else -1
theorem ds0_get {goal:Nat->Bool}{v:Int}(h:(ds0 goal k)[x]?=gO v):v=if goal x then 0 else -1:=by
 unfold ds0 at h;rw [eC,fW] at h;obtain⟨y,b,c⟩:=h;have d:=(kT.1 b);obtain⟨f,a⟩:=d;rw [List.getElem_range] at a;subst a;exact c.symm
theorem zet {K:Int}{L:Nat}{us:List Aut}{goal:Nat->Bool}(h:zfL w PA pn AA an ss us)(hok:zed ss us)(hS:Lst zbA w lo hi SA (eG n 0))(hn:(szs ss us).length=n)(hL:L<64)
  (HF:∀ W,Ext w W->∀ (x:Nat) (A:Option Addr) (l h c:Nat) (mv:kL),x<zH (zbt ss us)->Lst zbA W l h A (dec (szs ss us) x)->kQ kN 217 #[kO #[fQ PA pn pc,fQ AA an ac,fQ SA n sc,L,K,G],fQ A n c,mv] W fun e W'=>e=kP (.bool (goal x))/\Ext W W') :
  kQ kN 140 #[kO #[fQ PA pn pc,fQ AA an ac,fQ SA n sc,L,K,G]] w (zQ w (pnx (zbt ss us)) [0] goal (letters L 6)):=by
 obtain⟨w1,U0⟩:∃ x,Hid (w.alloc (.cells #[fQ PA pn pc,fQ AA an ac,fQ SA n sc,L,K,G] 185)=x):=⟨_,za rfl⟩;have bG:Ext w w1:=((dB w).alloc _).trans (Ext.eq_ U0.out);have bk:=Ext.bl_ U0.out;have HN:=za (fun W (hW:Ext w W)=>h.ext hW);have bY:=za (fun W (hW:Ext w W)=>hS.ext zbA.ok hW);have bV:=za HF;have be:=za hok;have Hn:=za hn;have da:n<=5:=by rw [<- hn];exact hok.len
 have Hz:=za hok.le16;have bf:=za (fun k=>hok.total ((szs ss us).take k) (List.take_sublist _ _));have b6:Sm L:=tM;obtain⟨N,aK⟩:∃ N:Nat,Hid (zau (szs ss us)=N):=⟨_,rfl⟩;have b7:1<=N/\N<=1048576:=by rw [<- aK.out];exact hok.total _ (List.Sublist.refl _)
 have bb:=za (show zH (zbt ss us)=N by unfold zH;rw [zge];exact aK.out);obtain⟨c4,aJ⟩:=b7;have Hd:=za (show ∀ x l,x<N->l∈letters L 6->∀ y∈pnx (zbt ss us) x l,y<N from fun x l _ hl y hy=>by rw [<- bb.out];exact zji hok.ok (zD.1 hl).1 y hy);have O:=za (show Rise (letters L 6) from ⟨fun l hl=>(zD.1 hl).1,fun a b x y f hy hab=>by
  have:=lI.1 (zjg L 6) a b (kT.1 f).1 (kT.1 hy).1 hab;rw [(kT.1 f).2,(kT.1 hy).2] at this;exact this⟩)
 clear h hok hS hn HF;generalize hdd:pnx (zbt ss us)=d at *;have bZ:=za hdd;clear hdd;generalize hLL:letters L 6=B at *;have aG:=za hLL;clear hLL
 go_enter Tryz.func140,Tryz.ntmps140
 go_upto_region 1 with fail
 rw [U0.out] at *;have c0:=bk.cell;go_upto_region 2 with (go_at_call 215;go_loud (refine (spec_l4Sizes (HN.out _ bG) be.out).mono ?_);rintro e w2 ⟨Az,cz,rfl,a2,S⟩)
 rw [Hn.out] at a2;rw [Hn.out];have ar:=za (fun W (hW:Ext w2 W)=>(Lst.ai (xs:=szs ss us) (c:=cz) (A:=Az) (by rw [Hn.out];exact a2)).ext zbA.ok hW);have bH:=bG.trans S;have bn:=bk.ext S;clear a2 c0;go_wp2_with fail
 go_loopw [5,6] (fun v i wr=>∃ k y:Nat,i=.int kA k/\v=.int kA y/\k<=n/\y<=1048576/\Hid (y=zau ((szs ss us).take k))/\wr=w2) (fun _ i _=>n - (intOf i).toNat)
 case atStart=>exact⟨0,1,rfl,rfl,dH _,oM,rfl,rfl⟩
 case round =>
  obtain⟨k,y,rfl,rfl,hk,hy,a1,rfl⟩:=hrel
  by_cases hlt:k<n
  ·obtain⟨bz,oz,z,rfl,_,_,hz,hc⟩:=(ar.out _ (dB _)).num (show k<(szs ss us).length by rw [Hn.out];exact hlt);have t:=za (show y*z=zau ((szs ss us).take (k+1)) by rw [eB,hz.out,eS,prodS_snoc,a1.out]);have bw:y*z<=1048576:=by rw [t.out];exact (bf.out (k+1)).2
   obtain⟨yz,bN⟩:∃ q:Nat,Hid (y*z=q):=⟨_,rfl⟩;have cD:(y:Int)*(z:Int)=(yz:Int):=by rw [<- bN.out];exact (gU y z).symm
   rw [bN.out] at bw t;go_wp2_with fail
   go_roundw
   case rel=>exact⟨k+1,yz,gM,gM,oM,bw,t,by first|rfl|trivial⟩
   case measure=>exact uM
  ·obtain rfl:n=k:=oM;obtain rfl:y=N:=by rw [a1.out,dK (by rw [Hn.out];exact dD _)];exact aK.out
   clear a1 hy;have c0:=bn.cell;have ba:=za (show kQ kN 216 #[kO #[fQ PA pn pc,fQ AA an ac,fQ SA n sc,L,K,G],fQ Az n cz,.int kA (y:Nat)] wr (RetMv wr (mvs d B y)) from by
    have:=spec_l4Moves (pc:=pc) (ac:=ac) (sv:=fQ SA n sc) (K:=K) (G:=G) (N:=y) (sc:=cz) (HN.out _ bH) be.out (ar.out _ (dB _)) Hn.out hL aJ;rw [bZ.out,aG.out] at this;exact this)
   go_upto_region 8 with (go_at_call 216;refine ba.out.mono ?_;rintro e w3 ⟨Am,cm,rfl,bx,ax⟩)
   rw [zdR];have bI:=bH.trans ax;have aL:=bn.ext ax;have HM:=za (fun W (hW:Ext w3 W)=>bx.ext P3.ok hW);clear bx ba c0;go_upto_region 9 with (at_make;refine zbo w3 w3 rfl _ _ 110 rfl 3 _ 1 8 Tryz.underlying110 zT _ _ y rfl rfl (dB _) oM lM ?_;intro w4 hw34 hown4 hx34 hsz4)
   have D:w4.ownsRow w3.heap.size 3 1 (fQ (gO w3.heap.size) y y) y (ints (ds0 goal 0++eG y 0)):=by simpa [ints,ds0,Value.cells,toList_madeCells_one] using hown4
   clear hown4;obtain⟨gd,aO⟩:∃ gd,Hid (w3.heap.size=gd):=⟨_,rfl⟩;rw [aO.out] at D;rw [aO.out];clear hx34 hsz4;have aj:w3.heap.size<=gd:=oH aO.out;go_wp2_with fail
   go_loopw [9] (fun i wr=>∃ k:Nat,i=.int kA k/\k<=y/\wr.ownsRow gd 3 1 (fQ (gO gd) y y) y (ints (ds0 goal k++eG (y - k) 0))/\Ext w3 wr) (fun i _=>y - (intOf i).toNat)
   case atStart=>exact⟨0,rfl,dH _,D,hw34⟩
   case round =>
    clear D hw34;obtain⟨k,rfl,hk,M,f⟩:=hrel
    by_cases hlt:k<y
    ·obtain⟨o0,g0⟩:=zaM M k oM;have f0:=M.frozenAt k;have R:=M.stored k (.int kA (-1));have bE:k<(ints (ds0 goal k++eG (y - k) 0)).length:=by rw [zdc M];omega
     have E:(ints (ds0 goal k++eG (y - k) 0)).set k (.int kA (-1))=ints (ds0 goal k++(-1) :: eG (y - k - 1) 0):=by
      rw [ints,ints,<- iX]
      congr 1
      rw [jF _ _ (by simp [ds0]),show (ds0 goal k).length=k by simp [ds0],gK];obtain⟨m,hm⟩:∃ m,y - k=m+1:=⟨y - k - 1,oM⟩;rw [hm];rfl
     rw [E] at R;have bQ:=R.1;have ak:Ext w3 (wr.setCell ⟨gd,k,gP⟩ (.int kA (-1))):=f.setCell (p:=⟨gd,k,gP⟩) aj _;clear R E M;go_upto_region 13 with fail
     clear g0 f0;have cQ:=za bE;clear bE;generalize wr.setCell ⟨gd,k,gP⟩ (.int kA (-1))=w5 at *;obtain⟨bm,om,v,cj,rfl,_,_,_,br,Ar,cr,rfl,_⟩:=(HM.out w5 ak).get (show k<(mvs d B y).length by rw [zdR];exact hlt);have cf:=bI.trans ak;have CB:∀ W,Ext w5 W->∀ j,W.cell? ⟨w.heap.size,j,gP⟩=#[fQ PA pn pc,fQ AA an ac,fQ SA n sc,.int kA L,.int kA K,.int kA G][j]?:=fun W hW=>((aL.ext ak).ext hW).cell;have CM:∀ W,Ext w5 W->W.cell? ⟨bm,om+k,gP⟩=gO (fQ Ar cj.length cr):=fun W hW=>hW.aa br;have CD:=za (fun W (hW:Ext w5 W)=>zgp (c:=cz) (y0:=k) (ar.out W ((ax.trans ak).trans hW)) Hn.out oM Hz.out oM);have c7:(k:Int)<(y:Int):=oM;have aX:=dB w5;clear br;refine uR (fun X=>Ext w5 X) [8] (zx.of [0,1,2,4,5,6,7,3,8]) ?_;refine uQ ?_;refine ze fun K hK=>?_;go_simp;refine (CD.out _ aX.drew).mono ?_;rintro e w6 ⟨A6,c6,rfl,s,F⟩;have aQ:(dec (szs ss us) k).length=n:=by rw [zdN];exact Hn.out
     have bh:=Lst.ai s;rw [aQ];have Y:=aX.drew.trans F;refine hK.out _ _ Y ?_;refine pT ?_;refine uQ ?_;have a7:=za (fun mv=>bV.out w6 (cf.trans Y) k A6 _ _ c6 mv (by rw [bb.out];exact hlt) bh);have U:=zh bQ Y;have aE:=ak.trans Y;clear CD CB CM aX s bh F bQ;cases hgk:goal k
     ·have ab:=za hgk;clear hgk;refine zb fun K hK=>?_;go_simp;refine (a7.out _).mono ?_;rw [ab.out];rintro e w7 ⟨rfl,I⟩;refine hK.out _ _ ?_;refine pT ?_;refine uQ ?_;refine zg ?_;have ay:=zh U I;rw [show ds0 goal k++(-1) :: eG (y - k - 1) 0=ds0 goal (k+1)++eG (y - (k+1)) 0 by
       rw [ds0,ds0,List.range_succ,eU];simp [ab.out,Nat.sub_sub]] at ay
      go_wp2_with fail
      go_roundw
      case rel=>exact⟨k+1,gM,oM,ay,aE.trans I⟩
      case measure=>exact uM
     ·have ab:=za hgk;clear hgk;refine zb fun K hK=>?_;go_simp;refine (a7.out _).mono ?_;rw [ab.out];rintro e w7 ⟨rfl,I⟩;refine hK.out _ _ ?_;refine pT ?_;refine uQ ?_;refine zg ?_;have Q:=zh U I;have bL:=aE.trans I;obtain⟨o1,g1⟩:=zaM Q k oM;have f1:=Q.frozenAt k;have R:=Q.stored k (.int kA 0);have E:(ints (ds0 goal k++(-1) :: eG (y - k - 1) 0)).set k (.int kA 0)=ints (ds0 goal (k+1)++eG (y - (k+1)) 0):=by
       rw [ints,ints,<- iX]
       congr 1
       rw [jF _ _ (by simp [ds0]),show (ds0 goal k).length=k by simp [ds0],gK,ds0,ds0,List.range_succ,eU];simp [ab.out,Nat.sub_sub]
      rw [E] at R;have ay:=R.1;have bM:Ext w3 (w7.setCell ⟨gd,k,gP⟩ (0:Int)):=bL.setCell (p:=⟨gd,k,gP⟩) aj _;clear R E;go_wp2_with fail
      go_roundw
      case rel=>exact⟨k+1,gM,oM,ay,bM⟩
      case measure=>exact uM
    ·obtain rfl:y=k:=oM;rw [gK,List.replicate_zero,iA] at M;have b4:=za (zbP.init (d:=d) (L:=B) (goal:=goal) (N:=y) (ds:=ds0 goal y) (by simp [ds0]) (fun x v hv=>ds0_get hv));have af:=za (spec_l4Dist (c:=cm) (cap:=y) (d:=d) (L:=B) (goal:=goal) (HM.out wr f) (Or.inr aj) M b4.out aJ Hd.out);clear M;go_upto_region 16 with (go_at_call 219;refine af.out.mono ?_;rintro e w6 ⟨rfl,ds,C,s,aB⟩)
     have F:Ext w3 w6:=f.frm aB (fun k hk e=>oM);clear af f aB;have HD:=za (fun W (hW:Ext w6 W)=>(Lst.ax (xs:=ds) (A:=gO ⟨gd,0,gP⟩) (by rw [C.out.1];exact eQ s)).ext IntP.ok hW);have bs:Hid (ds.length=y):=C.out.1;clear s;have aW:=bI.trans F;have c6:=(aL.ext F).cell;have HE:=za (show kQ kN 220 #[fQ Az n cz,fQ SA n sc] w6 fun e w'=>e=kP (.int kA 0)/\Ext w6 w' from by
      have:=zkh (c:=cz) (d:=sc) (ar.out w6 (ax.trans F)) (bY.out w6 aW) (by rw [jX];exact Hn.out) (fun k _=>by rw [List.take_replicate,encF_zero];omega) (fun x f=>(Hz.out x f).2) (fun x f=>by rw [(List.mem_replicate.1 f).2];omega);rw [Hn.out,jX,encF_zero] at this;exact this)
     go_upto_region 17 with (go_at_call 220;refine HE.out.mono (mQ fun w7 I=>?_))
     have al:=I.alloc (.cells #[(0:Int)] 3);have bo:=Blk.new w7 3 #[(0:Int)];have az:Lst zbA (w7.alloc (.cells #[(0:Int)] 3)) w7.heap.size (w7.alloc (.cells #[(0:Int)] 3)).heap.size (gO ⟨w7.heap.size,0,gP⟩) [0]:=Lst.ay ⟨rfl,sM,fun _=>⟨_,rfl,dD _,sM,fun j u hu=>by
      rw [zZ,eK,bo.cell];cases j with
      |zero=>simpa [zag] using hu
      |succ j=>simp [zag] at hu⟩⟩
     clear I bo HE c6;generalize hga:w7.heap.size=ga at *;clear hga;generalize w7.alloc _=w8 at *;have c8:=(aL.ext (F.trans al)).cell;have a9:=za (show kQ kN 134 #[.int kA (L:Nat)] w8 (zci w8 B) from by
      have:=zai L b6 w8;rw [aG.out] at this;exact this)
     go_upto_region 18 with (go_at_call 134;refine a9.out.mono ?_;rintro e w9 ⟨AL,cL,rfl,ah,a0⟩)
     have H:=al.trans a0;have HL:=za (fun W (hW:Ext w9 W)=>(Lst.ai ah).ext zbA.ok hW);have ae:=az.ext zbA.ok a0;clear ah az c8 a9 a0 al;obtain⟨bd,od,v0,hA,_,_,bF,bp⟩:=(HD.out w9 H).int (show 0<ds.length by rw [bs.out];omega);obtain⟨rfl,rfl⟩:gd=bd/\0=od:=by injection hA with e;injection e with e1 e2;exact⟨e1,e2⟩
     rw [eK] at bp;have bq:=ae.num2 (k:=0) (x:=0) rfl;rw [eK] at bq;clear hA;rcases C.out.2 0 v0 bF.out with ⟨rfl,cb⟩|⟨r0,rfl,hM⟩
     ·have ai:=za (show zQ w d [0] goal B (kP (.tuple #[ByteArray.empty,kR kK])) w9 from ⟨aW.trans H,Or.inr ⟨rfl,lost_of cb⟩⟩);go_wp2_with fail
      go_loopw [10,12,13,14,15] (fun _ o v _ _ wr=>o=.string ByteArray.empty/\v=.int kA (-1)/\wr=w9) (fun _ _ _ _ _ _=>0)
      case atStart=>exact⟨rfl,rfl,rfl⟩
      case round =>
       obtain⟨rfl,rfl,rfl⟩:=hrel;go_wp2;go_ret2;exact ai.out
     ·have dc:=hM.lt oM Hd.out;have HG:=za (zen.begin_ hM);clear hM;go_wp2_with fail
      go_loopw [10,12,13,14,15] (fun a o v _ _ wr=>∃ (r:Nat) (g Z:List Nat) (A:Option Addr) (c lo hi:Nat),a=fQ A g.length c/\o=.string (wstr Z)/\v=.int kA (r:Nat)/\Hid (zen d B goal [0] g Z r)/\Lst zbA wr lo hi A g/\Z.length+r=r0/\Ext w9 wr) (fun _ _ v _ _ _=>(intOf v).toNat)
      case atStart=>exact⟨r0,[0],[],_,_,_,_,rfl,rfl,rfl,HG,ae,sM,dB _⟩
      case round =>
       clear HG ae bq bp bF;obtain⟨r,g,Z,Aa,ca,la,ha,rfl,rfl,rfl,hG,b8,cA,f⟩:=hrel;have h6:=za (fun l hl=>O.out.1 l hl);have cg:=zis Z
       by_cases hr:0<r
       ·obtain⟨q,rfl⟩:∃ q,r=q+1:=⟨r - 1,oM⟩;obtain⟨K0,l0,av,x0,n0,aV,aY,bj⟩:=hG.out.exists_;have cx:=(kT.1 av).1;have aA:=za (fun n (hn:n∈g)=>(goes_congr (d:=d) (d':=d) (L:=B) (start:=[0]) (N:=y) (fun x f=>by simp at f;omega) (fun x l f hl=>⟨fun _=>Iff.rfl,Hd.out x l f hl⟩) hG.out.letters).2 (hG.out.goes n hn).1);have V:=za (fun (n:Nat) (hn:n∈g) (l:Nat) (hl:l∈B) (x:Nat) (f:x∈d n l)=>C.out.val (n:=q) (Hd.out n l (aA.out n hn) hl x f));have bW:=za (show ∃ n∈g,x0∈d n l0/\ds[x0]?=gO (q:Int) from ⟨n0,aV,aY,(V.out n0 aV l0 (dC av) x0 aY).2 bj⟩);have a8:=za av;clear av aY bj aV;have c3:B.length<=6:=by rw [<- aG.out];exact zB L 6
        have CC:=za (fun W (hW:Ext wr W) (k l:Nat) (hl:B[k]?=gO l)=>zkg (c:=cm) (c':=y) (c2:=ca) (r:=(q:Int)) (HM.out W (F.trans ((H.trans f).trans hW))) (HD.out W ((H.trans f).trans hW)) (b8.ext zbA.ok hW) rfl aA.out hl bs.out aJ Hd.out);obtain⟨l1,bt⟩:∃ l1,Hid (B[0]?=gO l1):=⟨_,za (dE oM)⟩;have cc:((q+1:Nat):Int) - 1=(q:Int):=oM;go_upto_region 24 with (go_at_call 221;refine (CC.out wr (dB _) 0 l1 bt.out).mono ?_;rintro e dj ⟨nx,⟨cI,cT,rfl,T,aC⟩,bB⟩)
        have ag:=Lst.ai T;clear T;go_wp2_with fail
        go_loopw [14,15] (fun k v wr2=>∃ (J l:Nat) (nx:List Nat) (A:Option Addr) (c lo hi:Nat),k=.int kA J/\v=fQ A nx.length c/\Lst zbA wr2 lo hi A nx/\J<=K0/\Hid (B[J]?=gO l/\(∀ x,x∈nx↔∃ n∈g,x∈d n l/\ds[x]?=gO (q:Int))/\∀ (j m:Nat),j<J->B[j]?=gO m->∀ n∈g,∀ x∈d n m,ds[x]?≠gO (q:Int))/\Ext wr wr2) (fun k _ _=>B.length - (intOf k).toNat)
        case atStart=>exact⟨0,l1,nx,_,_,_,_,rfl,rfl,ag,dH _,(show Hid _ from ⟨bt.out,bB.out.2,fun j m hj=>oM⟩),aC⟩
        case round =>
         clear ag bB aC;obtain⟨J,l,nx,An,cn,ln,db,rfl,rfl,bA,c9,t,S⟩:=hrel;have cB:=bA.len
         by_cases hz0:nx.length=0
         ·have c5:J<K0:=by
           rcases Nat.lt_or_ge J K0 with h1|h1
           ·exact h1
           ·exfalso;obtain rfl:J=K0:=oM;obtain⟨n,h2,h3,h4⟩:=bW.out;have h5:=t.out.1;rw [a8.out] at h5;obtain rfl:=kS h5;have:=(t.out.2.1 x0).2 ⟨n,h2,h3,h4⟩;rw [eE hz0] at this;cases this
          obtain⟨l2,bu⟩:∃ l2,Hid (B[J+1]?=gO l2):=⟨_,za (dE oM)⟩;have ch:((nx.length:Int)==0)=kC:=by simp [hz0]
          have aN:=za (CC.out _ S (J+1) l2 bu.out);have b9:((J+1:Nat):Int)=(J:Int)+1:=oM;rw [b9] at aN;go_upto_region 26 with fail
          go_wp2_with (go_at_call 221;refine aN.out.mono ?_;rintro e dk ⟨bO,⟨cJ,cU,rfl,aw,bJ⟩,bC⟩)
          have bD:=za (show B[J+1]?=gO l2/\(∀ x,x∈bO↔∃ n∈g,x∈d n l2/\ds[x]?=gO (q:Int))/\∀ (j m:Nat),j<J+1->B[j]?=gO m->∀ n∈g,∀ x∈d n m,ds[x]?≠gO (q:Int) from ⟨bu.out,bC.out.2,fun j m hj hm n hn x f=>by
           by_cases e:j=J
           ·subst e;have h5:=t.out.1;rw [hm] at h5;obtain rfl:=kS h5;intro h6;have:=(t.out.2.1 x).2 ⟨n,hn,f,h6⟩;rw [eE hz0] at this;cases this
           ·exact t.out.2.2 j m oM hm n hn x f⟩)
          have aS:=Lst.ai aw;have aZ:=S.trans bJ;go_roundw
          case rel=>exact⟨J+1,l2,bO,_,_,_,_,gM,rfl,aS,oM,bD,aZ⟩
          case measure=>exact uM
         ·have ch:((nx.length:Int)==0)=kK:=by rw [beq_eq_false_iff_ne];omega
          have b5:=za (show zen d B goal [0] nx (Z++[l]) q from by
           obtain⟨h1,h2,h3⟩:=t.out;refine hG.out.step O.out h1 (fun x=>?_) (fun e=>hz0 (by rw [e];rfl)) (fun j m hj hm n hn x f=>?_)
           ·rw [h2 x];constructor
            ·rintro ⟨n,h4,h5,h6⟩;exact⟨n,h4,h5,(V.out n h4 l (dC h1) x h5).1 h6⟩
            ·rintro ⟨n,h4,h5,h6⟩;exact⟨n,h4,h5,(V.out n h4 l (dC h1) x h5).2 h6⟩
           ·intro hM;exact h3 j m hj hm n hn x f ((V.out n hn m (dC hm) x f).2 hM))
          obtain⟨bl,ol,l',rfl,_,_,aP,aN⟩:=(HL.out _ (f.trans S)).num (show J<B.length by omega);obtain rfl:l=l':=by have h1:=aP.out;rw [t.out.1] at h1;exact kS h1
          have aQ:=h6.out l (dC aP.out);have cC:(wstr Z).size+(strOfNums [((97+l:Nat):Int)]).size<=9223372036854775807:=by rw [cg,zeZ];omega
          have ce:¬ 9223372036854775807<Z.length+1:=oM;have c1:=zeZ ((97+l:Nat):Int);have cd:=za (wstr_snoc Z l);have aR:(Z++[l]).length+q=r0:=by rw [eA,List.length_singleton];omega
          clear aP;go_wp2_with (go_at_call 138;refine (zfu aQ).mono (mQ fun dl aD=>?_))
          have bK:=(f.trans S).trans aD;have aT:=bA.ext zbA.ok aD;go_roundw
          case rel=>exact⟨q,nx,Z++[l],_,_,_,_,rfl,by rw [cd.out,gV];rfl,by first|rfl|rw [cc],b5,aT,aR,bK⟩
          case measure=>simp [intOf]
       ·obtain rfl:r=0:=oM;have ai:=za (show zQ w d [0] goal B (kP (.tuple #[.string (wstr Z),kR kC])) wr from ⟨aW.trans (H.trans f),Or.inl ⟨Z,rfl,hG.out.fin O.out.1⟩⟩);go_wp2;go_ret2;exact ai.out
theorem info_row6:(kN.info? 166).map (fun i=>(i.zero,i.size,i.bytes))=gO (gO (.agg (Array.replicate 6 (.int kA 0))),6,48):=kM
theorem row6_len:(Value.agg (Array.replicate 6 (.int kA 0))).cells.size=6:=dM
theorem zfC {a:Nat}(hb:a.testBit l=kC):∀ n,l<n->(letters a n)[place a l]?=gO l:=by
 intro n
 induction n with
 |zero=>intro h;omega
 |succ n ih =>
  intro h;rw [zbk]
  by_cases e:n=l
  ·subst e;rw [eD (by exact dD _)];simp [place,hb]
  ·have b:=ih oM;rw [List.getElem?_append_left (kT.1 b).1];exact b
theorem zjQ {a:Nat}(h:(letters a n)[k]?=gO l):place a l=k:=by
 have f:=zD.1 (dC h);have i:=zfC f.2 n f.1;have g:=lI.1 (show (letters a n).Pairwise (·<·) from List.Pairwise.filter _ List.pairwise_lt_range);obtain⟨c,j⟩:=kT.1 h;obtain⟨d,m⟩:=kT.1 i;rcases Nat.lt_trichotomy (place a l) k with b|b|b
 ·have:=g _ _ d c b;omega
 ·exact b
 ·have:=g _ _ c d b;omega
def tbC (n:Nat) (f:Nat->Nat->Nat):List kL:=zag ((fM (n*6)).map fun i=>f (i / 6) (i % 6))
theorem tbC_set {v:Nat}{f g:Nat->Nat->Nat}(hq:q<n)(hl:l<6)(h:∀ a b,a<n->b<6->g a b=if a=q/\b=l then v else f a b):(tbC n f).set (q*6+l) (.int kA (v:Nat))=tbC n g:=by
 unfold tbC zag;rw [iD,iD];refine List.ext_getElem? fun i=>?_;rw [List.getElem?_set];simp only [eF,List.length_range,eC]
 by_cases hi:i<n*6
 ·rw [gQ hi];simp only [iV,Function.comp];rw [h (i / 6) (i % 6) oM oM]
  by_cases e:q*6+l=i
  ·rw [if_pos e,if_pos oM,if_pos ⟨oM,oM⟩]
  ·rw [if_neg e,if_neg oM]
 ·rw [List.getElem?_eq_none (l:=fM (n*6)) (by simp;omega)]
  by_cases e:q*6+l=i
  ·omega
  ·rw [if_neg e];rfl
theorem tbC_get {f:Nat->Nat->Nat}(hq:q<n)(hl:l<6):(tbC n f)[q*6+l]?=gO (.int kA (f q l:Nat)):=by
 unfold tbC zag;rw [eC,eC,gQ oM];simp only [iV];rw [show (q*6+l) / 6=q by omega,show (q*6+l) % 6=l by omega]
theorem tbC_congr {f g:Nat->Nat->Nat}(h:∀ a b,a<n->b<6->f a b=g a b):tbC n f=tbC n g:=by
 unfold tbC
 congr 1
 refine iW fun i hi=>?_;rw [List.mem_range] at hi;exact h _ _ oM oM
theorem tb_made (n:Nat):(madeCells (Value.agg (Array.replicate 6 (.int kA 0))).cells (n*6)).toList=tbC n (fun _ _=>0):=by
 unfold madeCells tbC zag;simp only [Value.cells,Array.toList_map,Array.toList_range,iD];refine iW fun i _=>?_;simp only [Function.comp,Array.size_replicate];rw [getElem!_pos _ _ (by simp;omega),Array.getElem_replicate];rfl
def TbAt (w:kJ) (lo hi:Nat) (A:Option Addr) (a:Aut):Prop:=Reads w lo hi 6 A a.next.length (tbC a.next.length (aGo a))
theorem TbAt.ext (h:TbAt w lo hi A a)(hx:Ext w w'):TbAt w' lo hi A a:=Reads.ext h hx
theorem TbAt.at_ (h:TbAt w lo hi A a)(hq:q<a.next.length)(hl:l<6):∃ g o,A=gO ⟨g,o,gP⟩/\w.cell? ⟨g,o+q*6+l,gP⟩=gO (.int kA (aGo a q l:Nat)):=by
 obtain⟨b,e,_,_,d⟩:=Reads.at_ h hq;have i:=d (0*6+0) _ (tbC_get oM oM);have f:=zdK i;have c:=d (q*6+l) _ (tbC_get hq hl);rw [f,zZ,<- Nat.add_assoc] at c;exact⟨b.block,b.off,by rw [e,<- f],c⟩
def TbO (w:kJ) (A:Option Addr) (c:Nat) (a:Aut):Prop:=∃ base,w.ownsRow base 166 6 (fQ A a.next.length c) a.next.length (tbC a.next.length (aGo a))
theorem TbO.at_ (h:TbO w A c a):∃ lo hi,TbAt w lo hi A a:=by
 obtain⟨b,h⟩:=h;exact⟨_,_,eQ h⟩
theorem TbO.ext (h:TbO w A c a)(hx:Ext w w'):TbO w' A c a:=by
 obtain⟨b,h⟩:=h;exact⟨b,zh h hx⟩
theorem TbO.set {g:Nat}{cs:Array kL}{t:TypeId}(h:TbO w A c a)(hg:Blk w g t cs)(ht:166≠t) (v:kL):TbO (w.setCell g v) A c a:=by
 obtain⟨d,h⟩:=h;exact⟨d,zf h (dG w g 0 v) (fun b hb e=>by
  subst e;rcases h.2 with ⟨f,_⟩|⟨k,i,j,f,_,l,_⟩
  ·rw [f] at hb;simp [Value.ownBlock] at hb
  ·rw [f] at hb;have:k=b:=by simpa [Value.ownBlock] using hb
   subst this;unfold Blk at hg;rw [l] at hg;injection hg with hg
   injection hg with _ h2
   exact ht h2)⟩
def RetTb (w:kJ) (a:Aut) (e:Ending) (w':kJ):Prop:=∃ A c,e=kP (fQ A a.next.length c)/\TbO w' A c a/\Ext w w'
def RetTb2 (w:kJ) (a:Aut) (e:Ending) (w':kJ):Prop:=∃ A c,e=kP (fQ A a.next.length c)/\(∃ base,w.heap.size<=base/\w'.ownsRow base 166 6 (fQ A a.next.length c) a.next.length (tbC a.next.length (aGo a)))/\Ext w w'
theorem zgb (h:zF w lo hi B m B' m' a)(hv:Fit N a)(hN:N<=100) :
  kQ kN 119 #[kO #[a.al,fQ B m d,fQ B' m' d']] w (RetTb2 w a):=by
 obtain⟨⟨aB,aC⟩,⟨n1,aJ⟩,_,G⟩:=hv.row;obtain⟨al,O⟩:∃ al:Nat,Hid (a.al=al):=⟨a.al.toNat,by unfold Hid;omega⟩;have aH:Sm al:=by have:=O.out;unfold Sm;omega
 have M:=za (show a.al.toNat=al by have:=O.out;omega);have Hn:=za h.n1;have HN:=za (fun W (hW:Ext w W)=>h.1.ext hW);have ae:=za G;have aN:m<=100:=by rw [h.n1];omega
 have aX:=zB al 6;clear G h n1 aJ hv hN;rw [O.out];clear aB aC
 go_enter Tryz.func119,Tryz.ntmps119
 go_upto_region 1 with fail
 generalize U0:w.alloc _=f at *;obtain⟨T,Q⟩:=Ext.x1_ U0;clear U0;have c1:=Q.cell;go_upto_region 2 with (at_make;refine zbo f f rfl _ _ 148 rfl 166 _ 6 48 Tryz.underlying148 info_row6 _ _ m rfl rfl (dB _) oM lM ?_;intro w2 hx12 zkB hx2 hsz2)
 rw [tb_made] at zkB;have c2:=(Q.ext hx12).cell;clear hx2 hsz2;go_upto_region 3 with (go_at_call 67;refine (zah al aH _).mono ?_;rintro e w3 ⟨AL,cL,rfl,E,ap⟩)
 have L:=hx12.trans ap;have av:=zh zkB ap;have c:=Lst.ai E;have aI:=hx12.size;have c3:=(Q.ext L).cell;have aV:f.heap.size<w2.heap.size:=by
  have:=(zkB.lt f.heap.size rfl).2;exact this
 clear E c2 zkB;generalize hlq:letters al 6=u at *;have z:=za hlq;clear hlq;go_wp2_with fail
 go_loopw [5,6,7,8,9,20] (fun _ _ _ _ _ i wr=>∃ (q:Nat) (F:Nat->Nat->Nat),i=.int kA q/\q<=m/\Hid (∀ x y,x<q->y<6->F x y=aGo a x y)/\wr.ownsRow f.heap.size 166 6 (fQ (gO f.heap.size) m m) m (tbC m F)/\Ext f wr/\Lst zbA wr w2.heap.size w3.heap.size AL u) (fun _ _ _ _ _ i _=>m - (intOf i).toNat)
 case atStart=>exact⟨0,_,rfl,dH _,(show Hid _ from fun x y h=>oM),av,L,c⟩
 case round =>
  clear av c c3;obtain⟨q,F,rfl,hq,o,b,t,c⟩:=hrel
  by_cases hlt:q<m
  ·obtain⟨ad,Ak,ck,row,rfl,_,_,J,ag,am⟩:=(HN.out f T).row hlt;obtain⟨S,ak⟩:=ae.out q row J.out;rw [M.out,z.out] at S;have ay:=za ak;have ab:=za S;have az:=za (fun W (hW:Ext f W)=>am.ext hW);have ah:=t.aa ag;clear am ak ag S;go_wp2_with fail
   go_loopw [7,25] (fun _ i wr=>∃ (l:Nat) (F:Nat->Nat->Nat),i=.int kA l/\l<=6/\Hid ((∀ x y,x<q->y<6->F x y=aGo a x y)/\∀ y,y<l->F q y=q)/\wr.ownsRow f.heap.size 166 6 (fQ (gO f.heap.size) m m) m (tbC m F)/\Ext f wr/\Lst zbA wr w2.heap.size w3.heap.size AL u) (fun _ i _=>6 - (intOf i).toNat)
   case atStart=>exact⟨0,F,rfl,dH _,(show Hid _ from ⟨o.out,fun y h=>oM⟩),b,t,c⟩
   case round =>
    clear b t c o ah;obtain⟨l,F,rfl,hl,o,b,t,c⟩:=hrel
    by_cases R:l<6
    ·obtain⟨o0,g0⟩:=zaM b (q*6+l) oM;have f0:=b.frozenAt (q*6+l);have s:=b.stored (q*6+l) (.int kA (q:Nat));rw [tbC_set (g:=fun x y=>if x=q/\y=l then q else F x y) hlt R (fun _ _ _ _=>rfl)] at s;have r:=s.1;have V:Ext f (wr.setCell ⟨f.heap.size,q*6+l,gP⟩ (.int kA (q:Nat))):=t.setCell (p:=⟨f.heap.size,q*6+l,gP⟩) (dD _) _;have D:Lst zbA (wr.setCell ⟨f.heap.size,q*6+l,gP⟩ (.int kA (q:Nat))) w2.heap.size w3.heap.size AL u:=c.frm zbA.ok (dG wr f.heap.size (q*6+l) _) (fun k H h2 e=>oM);have C:=za (show (∀ x y,x<q->y<6->(if x=q/\y=l then q else F x y)=aGo a x y)/\∀ y,y<l+1->(if q=q/\y=l then q else F q y)=q from ⟨fun x y H h2=>by rw [if_neg oM];exact o.out.1 x y H h2,fun y h=>by
      by_cases e:y=l
      ·rw [if_pos ⟨rfl,e⟩]
      ·rw [if_neg oM];exact o.out.2 y oM⟩)
     clear s b c t;go_wp2_with fail
     go_roundw
     case rel=>exact⟨l+1,_,gM,oM,C,r,V,D⟩
     case measure=>exact uM
    ·have aj:=za (show 6<=l by omega);go_wp2_with fail
     go_loopw [8,9,37] (fun _ _ i wr=>∃ (k:Nat) (F:Nat->Nat->Nat),i=.int kA k/\k<=u.length/\Hid ((∀ x y,x<q->y<6->F x y=aGo a x y)/\(∀ (j y:Nat),j<k->u[j]?=gO y->F q y=aGo a q y)/\∀ y,y<6->(∀ j,j<k->u[j]?≠gO y)->F q y=q)/\wr.ownsRow f.heap.size 166 6 (fQ (gO f.heap.size) m m) m (tbC m F)/\Ext f wr/\Lst zbA wr w2.heap.size w3.heap.size AL u) (fun _ _ i _=>u.length - (intOf i).toNat)
     case atStart=>exact⟨0,F,rfl,dH _,(show Hid _ from ⟨o.out.1,fun j y h=>oM,fun y h _=>o.out.2 y (oH aj.out)⟩),b,t,c⟩
     case round =>
      clear b t c o;obtain⟨k,F,rfl,hk,o,b,t,c⟩:=hrel
      by_cases hkl:k<u.length
      ·obtain⟨bl,ol,l,rfl,_,_,hl,aU⟩:=c.num hkl;have R:l<6:=by
        have:=dC hl.out;rw [<- z.out] at this;exact (zD.1 this).1
       have aG:=za (zjQ (a:=al) (n:=6) (k:=k) (l:=l) (by rw [z.out];exact hl.out));have af:=za (show al.testBit l=kC from by
        have:=dC hl.out;rw [<- z.out] at this;exact (zD.1 this).2)
       obtain⟨aA,x,rfl,_,_,aq,ai⟩:=(az.out wr t).int (show k<row.length by have:=ab.out;omega);obtain⟨x0,x1⟩:=ay.out x (dC aq.out);obtain⟨v,rfl⟩:∃ v:Nat,x=v:=⟨x.toNat,oM⟩;have hv:=za (show aGo a q l=v by
        unfold aGo;rw [M.out,af.out,if_pos rfl,aG.out];simp only [dF,J.out,Option.getD_some,aq.out];rfl)
       obtain⟨o0,g0⟩:=zaM b (q*6+l) oM;have f0:=b.frozenAt (q*6+l);have U:=dB wr;have CX:∀ W,Ext wr W->W.cell? (aA.add k)=gO (.int kA (v:Nat)):=fun W hW=>hW.aa ai;have aW:(k:Int)<(row.length:Int):=oH ab.out;have aY:(q:Int)<(m:Int):=oM;have aL:(l:Int)<6:=oM;clear ai;go_upto_region 14 with fail
       refine uR (fun X=>Ext wr X) [9] (zx.of [0,1,2,3,4,5,6,7,8,9]) ?_;refine uQ ?_;have g1:wr.drew.cell? ⟨f.heap.size,q*6+l,gP⟩=gO o0:=g0;have f1:wr.drew.frozen? ⟨f.heap.size,q*6+l,gP⟩=kK:=f0;have au:wr.drew.ownsRow f.heap.size 166 6 (fQ (gO f.heap.size) m m) m (tbC m F):=zh b U.drew;have ao:=t.drew;have I:=c.ext zbA.ok U.drew;clear CX g0 f0 b t c U;generalize wr.drew=wd at *;have s:=au.stored (q*6+l) (.int kA (v:Nat));have V:Ext f (wd.setCell ⟨f.heap.size,q*6+l,gP⟩ (.int kA (v:Nat))):=ao.setCell (p:=⟨f.heap.size,q*6+l,gP⟩) (dD _) _;have D:Lst zbA (wd.setCell ⟨f.heap.size,q*6+l,gP⟩ (.int kA (v:Nat))) w2.heap.size w3.heap.size (gO ⟨bl,ol,gP⟩) u:=I.frm zbA.ok (dG wd f.heap.size (q*6+l) _) (fun k H h2 e=>oM);obtain⟨Y,aF,C⟩:∃ Y:Nat->Nat->Nat,(tbC m F).set (q*6+l) (.int kA (v:Nat))=tbC m Y/\Hid ((∀ x y,x<q->y<6->Y x y=aGo a x y)/\(∀ (j y:Nat),j<k+1->u[j]?=gO y->Y q y=aGo a q y)/\∀ y,y<6->(∀ j,j<k+1->u[j]?≠gO y)->Y q y=q):=by
        refine⟨fun x y=>if x=q/\y=l then v else F x y,tbC_set hlt R (fun _ _ _ _=>rfl),⟨fun x y H h2=>?_,fun j y Z hy=>?_,fun y h6 hy=>?_⟩⟩
        ·show (if x=q/\y=l then v else F x y)=_;rw [if_neg oM];exact o.out.1 x y H h2
        ·show (if q=q/\y=l then v else F q y)=_
         by_cases e:y=l
         ·rw [if_pos ⟨rfl,e⟩,e,hv.out]
         ·rw [if_neg (fun h=>e h.2)]
          by_cases e2:j=k
          ·subst e2;have:=hl.out;rw [hy] at this;exact absurd (kS this) e
          ·exact o.out.2.1 j y oM hy
        ·show (if q=q/\y=l then v else F q y)=_;rw [if_neg (fun h=>hy k oM (by rw [h.2];exact hl.out))];exact o.out.2.2 y h6 (fun j Z=>hy j oM)
       rw [aF] at s;have r:=s.1;refine zb fun K hK=>?_;go_simp;refine hK.out _ _ ?_;refine zg ?_;clear s au I ao;go_wp2_with fail
       go_roundw
       case rel=>exact⟨k+1,Y,gM,oM,C,r,V,D⟩
       case measure=>exact uM
      ·obtain rfl:k=u.length:=oM;have C:=za (show ∀ x y,x<q+1->y<6->F x y=aGo a x y from fun x y H h2=>by
        by_cases e:x=q
        ·subst e
         by_cases hb:y∈u
         ·obtain⟨j,Z⟩:=List.getElem?_of_mem hb;exact o.out.2.1 j y (kT.1 Z).1 Z
         ·rw [o.out.2.2 y h2 (fun j _ Z=>hb (dC Z))];unfold aGo;rw [M.out,if_neg];intro hbt;exact hb (by rw [<- z.out];exact zD.2 ⟨h2,hbt⟩)
        ·exact o.out.1 x y oM h2)
       go_wp2_with fail
       go_roundw
       case rel=>exact⟨q+1,F,gM,oM,C,b,t,c⟩
       case measure=>exact uM
  ·obtain rfl:m=q:=oM;have an:=za (show RetTb2 w a (kP (fQ (gO f.heap.size) m m)) wr from by
    refine⟨_,m,by rw [Hn.out],⟨f.heap.size,T.size,?_⟩,T.trans t⟩;have H:=b;rw [Hn.out,tbC_congr (g:=aGo a) (fun x y t hy=>o.out x y (oH Hn.out) hy)] at H;rw [Hn.out];exact H)
   clear b;go_wp2;go_ret;exact an.out
theorem zcm (h:zF w lo hi B m B' m' a)(hv:zj a=kC) :
  kQ kN 119 #[kO #[a.al,fQ B m d,fQ B' m' d']] w (RetTb2 w a):=zgb h (fit_of hv) oM
theorem zdo (h:zF w lo hi B m B' m' a)(hv:zj a=kC) :
  kQ kN 119 #[kO #[a.al,fQ B m d,fQ B' m' d']] w (RetTb w a):=by
 refine (zcm h hv).mono ?_;rintro e j ⟨A,c,f,⟨b,-,g⟩,i⟩;exact⟨A,c,f,⟨b,g⟩,i⟩
section
variable {P:Program}(w:kJ)
theorem zjY (base:Nat) (t ty e:TypeId) (i:TypeInfo) (size:Nat)(ht:P.underlying t=gO (.slice e))(hi:P.info? e=gO i)
  (v:kL) (n:Nat) (xs:List kL) (zkr:w.ownsRow base e size v n xs) (c:Nat):(Builtin.append_ #[t,t] ty #[v,fQ gP 0 c]).run P w=.ok v w:=by
 rcases zkr.2 with ⟨rfl,rfl⟩|⟨g,b,d,rfl,_,_,a,_⟩
 ·simp [Builtin.append_,run_underlying ht,sizeOf,typeInfo,hi,Builtin.lenOf,Builtin.firstCells]
 ·simp [Builtin.append_,run_underlying ht,sizeOf,typeInfo,hi,Builtin.lenOf,Builtin.firstCells,a,storeCells]
theorem zy {o:Oper}{a:Act}{K:Act->kJ->Prop}{Q:Exit->Act->kJ->Prop}(s x:Operand) (t:TypeId)
  (ho:o.op=.call { callee:=.builtin .append,args:=#[s,x],argTypes:=#[t,t] })
  (base:Nat) (e:TypeId) (z:kL) (size bytes:Nat) (ht:P.underlying t=gO (.slice e)) (hi:(P.info? e).map (fun i=>(i.zero,i.size,i.bytes))=gO (gO z,size,bytes)) (hzs:z.cells.size=size) (hsz:0<size)
  (v:kL) (n:Nat) (xs:List kL) (hs:a.eval s=v) (zkr:w.ownsRow base e size v n xs)
  (lo hi':Nat) (A:Option Addr) (m c:Nat) (news:List kL) (hx:a.eval x=fQ A m c) (hr:Reads w lo hi' size A m news) (h1:∀ u∈news,u.oneCell'=kC)
  (h63:n+m<=maxLen) (hbytes:(n+m)*bytes<=140737488355328) (hbase:base<=w.heap.size)
  (h:∀ v' w',w'.ownsRow base e size v' (n+m) (xs++news)->w.grownBy w' v.ownBlock->(v'.ownBlock=v.ownBlock\/v'.ownBlock=gO w.heap.size)->K (a.put o.dst v') w'):o.wp P a w K Q:=by
 obtain⟨i,b,p,q,r⟩:=info_parts hi;have l:∃ v' w',(Builtin.append_ #[t,t] o.type #[v,fQ A m c]).run P w=.ok v' w'/\w'.ownsRow base e size v' (n+m) (xs++news)/\w.grownBy w' v.ownBlock/\(v'.ownBlock=v.ownBlock\/v'.ownBlock=gO w.heap.size):=by
  by_cases h0:m=0
  ·subst h0;obtain rfl:news=[]:=eE (by simpa using hr.1);cases A with
   |none=>exact⟨v,w,zjY w base t o.type e i size ht b v n xs zkr c,by simpa using zkr,World.grownBy.refl w _,.inl rfl⟩
   |some y =>
    obtain⟨v',w',d,f,g,_,k⟩:=run_append_own_at (P:=P) w base t o.type e i z size bytes ht b p q r hzs hsz v n xs zkr y 0 c [] sM (fun j u hu=>by simp at hu) h1 h63 hbytes hbase;exact⟨v',w',d,f,g,k⟩
  ·obtain⟨y,rfl,_,_,B⟩:=hr.2.2 oM;obtain⟨v',w',d,f,g,_,k⟩:=run_append_own_at (P:=P) w base t o.type e i z size bytes ht b p q r hzs hsz v n xs zkr y m c news hr.1 B h1 h63 hbytes hbase;exact⟨v',w',d,f,g,k⟩
 obtain⟨v',w',d,f,g,k⟩:=l;unfold Oper.wp execOp;simp only [ho,resolve,invoke,builtin,Sem.run_bind,Sem.run_pure,Result.andThen_ok,List.map_toArray,gF,j3,hs,hx,d];exact h v' w' f g k
theorem zdi {ops:Array Oper}{rest:List Oper}{o:Oper}{a:Act}{Q:Exit->Act->kJ->Prop}(hgd:o.guard=gP) (s x:Operand) (t:TypeId)
  (ho:o.op=.call { callee:=.builtin .append,args:=#[s,x],argTypes:=#[t,t] })
  (base:Nat) (e:TypeId) (z:kL) (size bytes:Nat) (ht:P.underlying t=gO (.slice e)) (hi:(P.info? e).map (fun i=>(i.zero,i.size,i.bytes))=gO (gO z,size,bytes)) (hzs:z.cells.size=size) (hsz:0<size)
  (v:kL) (n:Nat) (xs:List kL) (hs:a.eval s=v) (zkr:w.ownsRow base e size v n xs)
  (lo hi':Nat) (A:Option Addr) (m c:Nat) (news:List kL) (hx:a.eval x=fQ A m c) (hr:Reads w lo hi' size A m news) (h1:∀ u∈news,u.oneCell'=kC)
  (h63:n+m<=maxLen) (hbytes:(n+m)*bytes<=140737488355328) (hbase:base<=w.heap.size)
  (h:∀ v' w',w'.ownsRow base e size v' (n+m) (xs++news)->w.grownBy w' v.ownBlock->(v'.ownBlock=v.ownBlock\/v'.ownBlock=gO w.heap.size)->wpList P ops Q rest (a.put o.dst v') w'):wpList P ops Q (o :: rest) a w:=
 wpList_plain hgd fun _ hK=>zy w s x t ho base e z size bytes ht hi hzs hsz v n xs hs zkr lo hi' A m c news hx hr h1 h63 hbytes hbase fun v' w' h2 h3 h4=>hK _ _ (h v' w' h2 h3 h4)
end
theorem nats_oneC (l:List Nat):∀ u∈zag l,u.oneCell'=kC:=by
 intro u hu;obtain⟨x,_,rfl⟩:=kW.1 hu;rfl
def RetNx (w:kJ) (base:Nat) (v:kL) (xs:List kL) (R:List Nat) (e:Ending) (w':kJ):Prop:=
 ∃ v',e=kP v'/\w'.ownsRow base 3 1 v' (xs.length+R.length) (xs++zag R)/\Frm (fun b=>v.ownBlock=gO b) w w'/\(v'.ownBlock=v.ownBlock\/∃ b,v'.ownBlock=gO b/\w.heap.size<=b)
theorem flat_snoc {l:List Nat}{a:Nat}(f:Nat->List Nat)(h:l[a]?=gO q):(l.take (a+1)).flatMap f=(l.take a).flatMap f++f q:=by
 rw [eB,h];simp
theorem drop_cons (h:ss[j]?=gO s):ss.drop j=s :: ss.drop (j+1):=by
 obtain⟨a,rfl⟩:=kT.1 h;exact gG a
theorem impl_next {v:kL}{xs:List kL}(h:PtAt w lo hi A k lo' hi' M ss)(hs:∀ s∈ss,Sml s)(hk4:k<=4)(hm:m<=4611686018427387904)(hl:l<6)(hT:Tab w)
  (zkr:w.ownsRow base 3 1 v n xs) (hb:base<=w.heap.size) (hn:n<=1099511627776) :
  kQ kN 68 #[kO #[fQ A k c,fQ M k d],m,l,v] w (RetNx w base v xs (nx ss m l).1):=by
 have HP:=za (fun W (hW:Ext w W)=>h.ext hW);have HT:=za (fun W (hW:Ext w W)=>hT.ext hW);have HO:=za (fun W (hW:Ext w W)=>zh zkr hW);have Hs:=za hs;have bg:=za h.sys.1;have be:=za (fun j=>nx_facts (ss:=ss.drop j) (fun s hx=>hs s (j0 hx)) m l);have aN:=za (fun j=>nx_len (ss:=ss.drop j) (fun s hx=>hs s (j0 hx)) m l);have aC:=za (show ∀ j,16 ^ (ss.drop j).length<=65536 from fun j=>by
  have:(ss.drop j).length<=4:=by rw [List.length_drop,<- h.sys.1];omega
  exact dW (eL oM this) dM)
 have cj:=zkr.1;clear h hs hT zkr
 go_enter Tryz.func68,Tryz.ntmps68
 have bp:Blk (w.alloc (.cells #[fQ A k c,fQ M k d] 108)) w.heap.size 108 #[fQ A k c,fQ M k d]:=Blk.new w _ _;have aU:=(dB w).alloc (.cells #[fQ A k c,fQ M k d] 108);have Y:=World.ownsRow_lit (base:=w.heap.size) (e:=3) (size:=1) (w.alloc (.cells #[fQ A k c,fQ M k d] 108)) #[(0:Int)] 1 aU.size dM rfl;rw [show (w.alloc (.cells #[fQ A k c,fQ M k d] 108)).heap.size=w.heap.size+1 by simp] at Y;have aA:=bp.ext ((dB _).alloc (.cells #[(0:Int)] 3));have cp:=aA.cell;go_upto_region 2 with fail
 generalize U0:(w.alloc _).alloc _=w2 at *;have E:=aU.trans (Ext.al_ U0);clear U0;go_wp2_with fail
 go_loopw [1,9,10,11] (fun f rv wt i wr=>∃ (j nd' W:Nat) (R:List Nat),j<=k/\i=.int kA ((j:Int) - 1)/\f=.int kA (nd':Nat)/\wt=.int kA (W:Nat)/\Hid (nx (ss.drop j) m l=(R,W,nd'))/\wr.ownsRow w.heap.size 3 1 rv R.length (zag R)/\Ext w2 wr) (fun _ _ _ i _=>(intOf i+1).toNat)
 case atStart=>exact⟨k,m,1,[0],dD _,gM,rfl,rfl,za (by rw [List.drop_of_length_le (by rw [<- bg.out];exact dD _)];rfl),Y,dB _⟩
 case round =>
  clear Y cp;obtain⟨j,f,W,R,hj,rfl,rfl,rfl,aw,hR,I⟩:=hrel;have ad:=aA.ext I;have cp:=ad.cell
  by_cases hlt:1<=j
  ·obtain⟨i,rfl⟩:∃ i,j=i+1:=⟨j - 1,oM⟩;obtain⟨g,o,s,B,q,c',rfl,_,_,hs,c0,c1,c2,-⟩:=(HP.out wr (E.trans I)).sys.sys (k:=i) oM;have t:=za (Hs.out s (dC hs.out));obtain⟨p,hp⟩:∃ p:Nat,Hid (s.st=p):=⟨s.st.toNat,za (oH t.out.1)⟩;have ce:1<=p/\p<=16:=by have:=t.out.1;have:=t.out.2.1;have:=hp.out;omega
   obtain⟨al,ab⟩:∃ al:Nat,Hid (s.al=al):=⟨s.al.toNat,za (oH t.out.2.2.2)⟩;have bq:Sm al:=by have:=t.out.2.2.2;have:=ab.out;unfold Sm;omega
   rw [ab.out] at c0;rw [hp.out] at c1;have bf:(((i+1:Nat):Int) - 1)=(i:Int):=oM;rw [bf];have hF:=be.out (i+1);have aF:=aN.out (i+1);have aE:=aC.out (i+1);rw [aw.out] at hF aF;obtain⟨ba,bb,aI,a8,bk⟩:=hF;have a3:=za aI;clear aI a8;dsimp only at ba bb bk aF;obtain⟨T,H⟩:∃ T,Hid (cho s (f % p) l=T):=⟨_,za rfl⟩;have b9:T.length<=16:=by
    have:=cho_len t.out (i:=f % p) (l:=l) (by have:=hp.out;have:=iM f (show 0<p by omega);omega);rw [H.out] at this;have:=hp.out;omega
   have aK:=za (show ∀ q∈T,q<16 from fun q hq=>by
    have:=cho_lt t.out (i:=f % p) (l:=l) (by have:=hp.out;have:=iM f (show 0<p by omega);omega) q (by rw [H.out];exact hq);have:=hp.out;omega)
   have bO:((f:Int)).tmod (p:Int)=((f % p:Nat):Int):=rfl;have bN:((f:Int)).tdiv (p:Int)=((f / p:Nat):Int):=rfl;have cc:(i:Int)<(k:Int):=oM;have U:=(dB wr).alloc (.cells #[al,p,fQ B q c'] 38);have bP:(f:Int)<=4611686018427387904:=oM;have cg:((p:Int)==0)=kK:=by simp;omega
   go_upto_region 6 with fail
   clear c0 c1 c2 cp;have cp:=(ad.ext U).cell;have aj:=ad.ext U;have aG:=zh hR U;have S:=I.trans U;generalize U0:wr.alloc _=w3 at *;have bs:=Ext.bl_ U0;clear U0;generalize wr.heap.size=G3 at *;have c3:=bs.cell;go_upto_region 7 with fail
   obtain⟨z,ag⟩:∃ z:Nat,Hid (f % p=z):=⟨_,za rfl⟩;have hz:((f:Int) % (p:Int))=(z:Int):=by rw [<- ag.out];exact (iB f p).symm
   have bA:z<16:=by have:=iM f (show 0<p by omega);have:=ag.out;omega
   rw [hz];rw [ag.out] at H;have af:=(dB w3).alloc (.cells #[(z:Int)] 3);have h4:=World.ownsRow_lit (base:=w.heap.size) (e:=3) (size:=1) w3 #[(z:Int)] 1 (dW (dW E.size S.size) (dD _)) dM rfl;have J:=aj.ext af;have V:=bs.ext af;have aH:=zh aG af;have F:=S.trans af;clear c3 cp bs aj aG S hR I ad U;generalize w3.alloc _=w4 at *;generalize w3.heap.size=G4 at *;have c4:=V.cell;have a7:hasB al (l:Nat)=al.testBit l:=by simp [hasB]
   go_upto_if 41 with (go_at_call 127;refine (zbN al l bq _).mono ?_;rw [a7];rintro e w4 ⟨rfl,rfl⟩)
   go_cut [13] (fun tv wx=>∃ (A':Option Addr) (c2:Nat),tv=fQ A' T.length c2/\Reads wx 0 wx.heap.size 1 A' T.length (zag T)/\Ext w4 wx)
   case first =>
    cases hbt:al.testBit l
    ·have aa:T=[z]:=by
      rw [<- H.out,cho,ab.out,eT,hbt];rfl
     subst aa;go_wp2_with fail
     go_meet;exact⟨_,_,rfl,(eQ h4).more (dH _) (dD _),dB _⟩
    ·have aa:T=letters (succ s.edges (z:Nat) (l:Nat)) 32:=by
      rw [<- H.out,cho,ab.out,eT,hbt];rfl
     go_upto_region 8 with fail
     clear c4;obtain⟨bB,bi,bj⟩:=(HP.out _ (E.trans F)).mov;obtain⟨a4,u,rfl,_,_,hu,aL⟩:=bi.one (k:=i) oM;obtain⟨b,bc,rfl⟩:∃ b,bB[i]?=gO b/\u=.pointer (gO ⟨b,0,gP⟩):=by
      have:=hu.out;simp only [ptrs,eC,fW] at this;obtain⟨b,Y,h2⟩:=this;exact⟨b,Y,h2.symm⟩
     have aO:=(bj.2 i b s bc hs.out).at_;have bD:Few 16 s.edges:=fun e he=>by
      have:=t.out.2.2.1 e he;have:=hp.out;omega
     have s1:=succ_sm bD (dD _) (z:Nat) (l:Nat);have cP:=J.cells;have cS:=fun W (hW:Ext w4 W)=>(V.ext hW).cell;have cM:∀ W,Ext w4 W->W.cell? (a4.add i)=gO (.pointer (gO b)):=fun W hW=>hW.aa aL;have cV:∀ W,Ext w4 W->W.cell? ⟨b,z*6+l,gP⟩=gO (.int kA (succ s.edges (z:Nat) (l:Nat):Nat)):=fun W hW=>hW.aa (aO z l bA hl);have bW:(z:Int)<16:=oM;have cd:(l:Int)<6:=oM;have bl:¬ (p=0):=oM;have a9:=za aa;generalize succ s.edges (z:Nat) (l:Nat)=sc at *;have D:=dB w4;clear aL aO aa;refine uR (fun X=>Ext w4 X) [14] (zx.of [0,1,2,3,4,5,6,7,8,9,10,11,12,13,14,15]) ?_;refine uQ ?_;refine ze fun K hK=>?_;go_simp;refine hK.out _ _ D.drew ?_;refine pT ?_;refine uQ ?_;refine ze fun K hK=>?_;go_simp;refine (impl_members sc s1 _ (HT.out _ (E.trans (F.trans D.drew)))).mono ?_;rintro e w5 ⟨A5,c5,rfl,ah,bw⟩;have ap:=D.drew.trans bw;rw [<- a9.out] at ah ⊢;refine hK.out _ _ ap ?_;refine pT ?_;refine uQ ?_;refine zg ?_;go_wp2_with fail
     go_meet;exact⟨_,_,rfl,(eQ ah).more (dH _) (dD _),ap⟩
   case rest =>
    obtain⟨A',c2,rfl,aJ,C⟩:=hcut;have Z:=zh aH C;have a6:=V.ext C;have aq:=F.trans C;have bM:=J.ext C;clear h4 aH V F J C c4;have ca:=aJ.len;have bY:=za Z;obtain⟨AR,cR,rfl⟩:=zi Z;have au:=eQ Z;have ar:R.length<=65536:=oM;clear Z;go_wp2_with fail
    go_loopw [14,59] (fun mv ia wx=>∃ a:Nat,a<=T.length/\ia=.int kA (a:Nat)/\wx.ownsRow wc.heap.size 3 1 mv ((T.take a).flatMap fun q=>R.map fun x=>q*W+x).length (zag ((T.take a).flatMap fun q=>R.map fun x=>q*W+x))/\Ext wc wx) (fun _ ia _=>T.length - (intOf ia).toNat)
    case atStart=>exact⟨0,dH _,rfl,World.ownsRow_nil _ _ _ _,dB _⟩
    case round =>
     obtain⟨a,ha,rfl,av,ae⟩:=hrel
     by_cases hat:a<T.length
     ·obtain⟨b2,qv,rfl,_,_,bn,bm⟩:=(aJ.ext ae).one (k:=a) hat;obtain⟨G,aR,rfl⟩:∃ G,Hid (T[a]?=gO G)/\qv=.int kA (G:Nat):=by
       have:=bn.out;simp only [zag,eC,fW] at this;obtain⟨x,Y,h2⟩:=this;exact⟨x,za Y,h2.symm⟩
      have bS:=aK.out G (dC aR.out);have br:=za (flat_snoc (fun q=>R.map fun x=>q*W+x) aR.out);have cf:((T.take a).flatMap fun q=>R.map fun x=>q*W+x).length<=16*65536:=by
       have:∀ L:List Nat,(L.flatMap fun q=>R.map fun x=>q*W+x).length=L.length*R.length:=by
        intro L
        induction L with
        |nil=>simp
        |cons x r ih=>rw [List.flatMap_cons,eA,ih,eF,List.length_cons,Nat.add_mul,Nat.one_mul,Nat.add_comm]
       rw [this,e9];exact fK oM ar
      generalize (T.take a).flatMap (fun q=>R.map fun x=>q*W+x)=P at *;go_upto_region 13 with fail
      clear bm;go_wp2_with fail
      go_loopw [14,65] (fun mv ib wy=>∃ b:Nat,b<=R.length/\ib=.int kA (b:Nat)/\wy.ownsRow wc.heap.size 3 1 mv (P++(R.take b).map fun x=>G*W+x).length (zag (P++(R.take b).map fun x=>G*W+x))/\Ext wc wy) (fun _ ib _=>R.length - (intOf ib).toNat)
      case atStart=>exact⟨0,dH _,rfl,by simpa using av,ae⟩
      case round =>
       obtain⟨b,cb,rfl,O,ay⟩:=hrel
       by_cases hbt:b<R.length
       ·obtain⟨b1,rv,rfl,_,_,bo,ch⟩:=(au.ext ay).one (k:=b) hbt;obtain⟨r1,aS,rfl⟩:∃ r1,Hid (R[b]?=gO r1)/\rv=.int kA (r1:Nat):=by
         have:=bo.out;simp only [zag,eC,fW] at this;obtain⟨x,Y,h2⟩:=this;exact⟨x,za Y,h2.symm⟩
        have bU:=a3.out r1 (dC aS.out);have aQ:G*W<=16*65536:=fK oM oM;have b8:(P++(R.take b).map fun x=>G*W+x).length<=17*65536:=by
         rw [eA,eF,e9];omega
        obtain⟨qw,ax⟩:∃ qw:Nat,Hid (G*W=qw):=⟨_,za rfl⟩;have bT:(G:Int)*(W:Int)=(qw:Int):=by rw [<- ax.out];exact (gU G W).symm
        have aT:=za (show (P++(R.take (b+1)).map fun x=>G*W+x)=(P++(R.take b).map fun x=>G*W+x)++[qw+r1] by
         rw [eB,aS.out,<- ax.out]
         simp)
        rw [ax.out] at aQ;generalize P++(R.take b).map (fun x=>G*W+x)=P3 at *;go_wp2_with (at_builtin;refine zV wc wr rfl _ _ _ rfl 3 _ 1 8 Tryz.underlying110 zT rfl dM u14 _ _ _ _ rfl rfl ay O rfl (zaJ _) lM oM ?_;intro v' w1 hext1 zkA hg1 hat1)
        go_roundw
        case rel=>exact⟨b+1,oM,gM,by rw [aT.out,eA];simpa [zag] using zkA,hext1⟩
        case measure=>exact uM
       ·obtain rfl:b=R.length:=oM;rw [eZ] at O;go_wp2_with fail
        go_roundw
        case rel=>exact⟨a+1,oM,gM,by rw [br.out];exact O,ay⟩
        case measure=>exact uM
     ·obtain rfl:a=T.length:=oM;rw [eZ] at av;have c5:=(a6.ext ae).cell;have bd:((f:Int) / (p:Int))=((f / p:Nat):Int):=(iZ f p).symm;have bu:W*p<=65536*16:=fK oM oM;obtain⟨wp,Q⟩:∃ wp:Nat,Hid (W*p=wp):=⟨_,za rfl⟩;have bV:(W:Int)*(p:Int)=(wp:Int):=by rw [<- Q.out];exact (gU W p).symm
      rw [Q.out] at bu;have an:=za (show nx (ss.drop i) m l=(T.flatMap (fun q=>R.map fun x=>q*W+x),wp,f / p) by
       rw [drop_cons hs.out,nx,aw.out,<- Q.out,<- H.out];have e:s.st.toNat=p:=oH hp.out;rw [e,ag.out])
      have bl:¬ (p=0):=oM;have bz:=aq.trans ae;have bt:w.heap.size<=wc.heap.size:=dW E.size aq.size;have aP:=zn av bt;obtain⟨aV,ak⟩:∃ y:Nat,Hid (f / p=y):=⟨_,za rfl⟩;rw [ak.out] at bd an;have bR:aV<=f:=by rw [<- ak.out];exact iU _ _
      go_wp2_with fail
      go_roundw
      case rel=>exact⟨i,aV,wp,_,oM,gM,gM,gM,an,aP,bz⟩
      case measure=>simp [intOf]
  ·obtain rfl:j=0:=oM;have am:=za (show (nx ss m l).1=R by
    have:=aw.out;rw [List.drop_zero] at this;rw [this])
   have bh:=aN.out 0;have aE:=aC.out 0;rw [List.drop_zero,am.out] at bh;rw [List.drop_zero] at aE;have hO:=HO.out wr (E.trans I);have D:=E.trans I;have bx:xs.length=n:=oM;obtain⟨AR,cR,rfl⟩:=zi hR;have au:=eQ hR;have bQ:¬ (0<=(((0:Nat):Int) - 1)):=oM;go_wp2_with (at_builtin;refine zdi wr rfl _ _ 110 rfl base 3 _ 1 8 Tryz.underlying110 zT rfl dM v n xs rfl hO _ _ AR R.length cR (zag R) rfl au (nats_oneC R) lM oM (dW hb D.size) ?_;intro v' w5 ah hg5 hat5)
   go_ret;refine⟨v',rfl,by rw [bx,am.out];exact ah,D.ak.trans ((Frm.ae hg5).mono fun b _ h=>h),?_⟩;rcases hat5 with h|h
   ·exact .inl h
   ·exact .inr ⟨_,h,D.size⟩
structure BCaps (w:kJ) (g8 g10 g11 g12 g13:Nat) (A M UA RA:Option Addr) (k c dm uc rc:Nat) (ss:List Sys) (a p:Aut):Prop where
 h8:Blk w g8 108 #[fQ A k c,fQ M k dm]
 h10:Blk w g10 148 #[fQ UA a.next.length uc]
 h11:Blk w g11 148 #[fQ RA p.next.length rc]
 h12:Blk w g12 3 #[.int kA (a.next.length:Nat)]
 h13:Blk w g13 3 #[.int kA (p.next.length:Nat)]
 pt:∃ lo hi lo' hi',PtAt w lo hi A k lo' hi' M ss
 tu:∃ lo hi,TbAt w lo hi UA a
 tr:∃ lo hi,TbAt w lo hi RA p
theorem BCaps.ext (h:BCaps w g8 g10 g11 g12 g13 A M UA RA k c dm uc rc ss a p)(hx:Ext w w'):BCaps w' g8 g10 g11 g12 g13 A M UA RA k c dm uc rc ss a p:=by
 obtain⟨q,o,g,b,l⟩:=h.pt;obtain⟨i,d,m⟩:=h.tu;obtain⟨j,f,n⟩:=h.tr;exact⟨h.h8.ext hx,h.h10.ext hx,h.h11.ext hx,h.h12.ext hx,h.h13.ext hx,⟨q,o,g,b,l.ext hx⟩,⟨i,d,m.ext hx⟩,⟨j,f,n.ext hx⟩⟩
theorem zeh (h:∀ s∈ss,Sml s):1<=zH (ss.map zec):=zgk fun m hm=>by
 obtain⟨s,hs,rfl⟩:=kW.1 hm
 exact zeI (h s hs)
theorem zdt (h:∀ s∈ss,Sml s):zH (ss.map zec)<=16 ^ ss.length:=by
 have a:∀ x∈(ss.map zec).map Prod.fst,x<=16:=fun x hx=>by
  rw [iD] at hx;obtain⟨s,b,rfl⟩:=kW.1 hx;have a:=(h s b).1;have c:=(h s b).2.1;simp only [Function.comp,zec];omega
 have:=prodS_le a;simpa [zH] using this
theorem zjh (h:PtAt w lo hi A k lo' hi' M ss)(hs:∀ s∈ss,Sml s)(hk:k<=3) :
  kQ kN 176 #[kO #[fQ A k c,fQ M k dm]] w fun e w'=>e=kP (.int kA (zH (ss.map zec):Nat))/\Ext w w':=by
 have E:=za (fun W (hW:Ext w W)=>h.sys.ext hW);have I:=za h.sys.1;have G:=za hs;have F:=za (show ∀ j,1<=zH ((ss.take j).map zec)/\zH ((ss.take j).map zec)<=4096 from fun j=>by
  have x:∀ s∈ss.take j,Sml s:=fun s hs'=>hs s (List.mem_of_mem_take hs');refine⟨zeh x,dW (zdt x) ?_⟩;have H:(ss.take j).length<=3:=by rw [e9];have:=h.sys.1;omega
  calc 16 ^ (ss.take j).length<=16 ^ 3:=eL oM H
   _=4096:=by decide)
 clear hs h
 go_enter Tryz.func176,Tryz.ntmps176
 go_upto_region 1 with fail
 generalize U0:w.alloc _=S at *;obtain⟨r,n⟩:=Ext.x1_ U0;clear U0;have u:=n.cell;go_wp2_with fail
 go_loopw [3,5,9] (fun v _ i wr=>∃ j y:Nat,i=.int kA j/\j<=k/\v=.int kA y/\y<=4096/\Hid (y=zH ((ss.take j).map zec))/\Ext w wr) (fun _ _ i _=>k - (intOf i).toNat)
 case atStart=>exact⟨0,1,rfl,dH _,rfl,oM,rfl,r⟩
 case round =>
  obtain⟨j,y,rfl,Q,rfl,R,l,m⟩:=hrel
  by_cases hlt:j<k
  ·obtain⟨b,o,s,B,q,d,rfl,_,_,hs,L,u,O,_⟩:=(E.out wr m).sys hlt;have g:=G.out s (dC hs.out);obtain⟨p,C⟩:∃ p:Nat,Hid (s.st=p):=⟨s.st.toNat,by have:=g.1;unfold Hid;omega⟩;have f:=za (show zH ((ss.take (j+1)).map zec)=y*p by
    rw [eB,hs.out,eS,eU,zcc,<- l.out];simp [zH,zau,zec,C.out])
   have a:=(F.out (j+1)).2;rw [f.out] at a;obtain⟨z,D⟩:∃ z:Nat,Hid (y*p=z):=⟨_,rfl⟩;have J:(y:Int)*(p:Int)=(z:Int):=by rw [<- D.out];exact (gU y p).symm
   rw [D.out] at a f;rw [C.out] at u;clear g;go_wp2_with fail
   go_roundw
   case rel=>exact⟨j+1,z,gM,oM,gM,a,f.symm,by first|exact m.alloc _|exact (m.alloc _).drew⟩
   case measure=>exact uM
  ·obtain rfl:k=j:=oM;have t:=za (show y=zH (ss.map zec) by rw [l.out,dK (oH I.out)]);go_wp2;go_ret;exact⟨zao (by rw [t.out]),m⟩
structure GCaps (w:kJ) (g4 ga g5 g12 g13:Nat) (a p:Aut):Prop where
 h4:Blk w g4 173 #[kV (gO ga)]
 ha:∃ (B:Option Addr) (m d:Nat) (B':Option Addr) (m' d' lo hi:Nat),Blk w ga 27 #[a.al,fQ B m d,fQ B' m' d']/\zF w lo hi B m B' m' a
 h5:∃ (B:Option Addr) (m d:Nat) (B':Option Addr) (m' d' lo hi:Nat),Blk w g5 27 #[p.al,fQ B m d,fQ B' m' d']/\zF w lo hi B m B' m' p
 h12:Blk w g12 3 #[.int kA (a.next.length:Nat)]
 h13:Blk w g13 3 #[.int kA (p.next.length:Nat)]
theorem GCaps.ext (h:GCaps w g4 ga g5 g12 g13 a p)(hx:Ext w w'):GCaps w' g4 ga g5 g12 g13 a p:=by
 obtain⟨B,m,d,g,u,k,t,s,l,o⟩:=h.ha;obtain⟨C,n,c,i,v,j,f,b,q,r⟩:=h.h5;exact⟨h.h4.ext hx,⟨B,m,d,g,u,k,t,s,l.ext hx,o.ext hx⟩,⟨C,n,c,i,v,j,f,b,q.ext hx,r.ext hx⟩,h.h12.ext hx,h.h13.ext hx⟩
theorem zfO (h:zF w lo hi B m B' m' a)(hq:q<m'):∃ ad,B'=gO ad/\w.cell? (ad.add q)=gO (.bool (zaC a q)):=by
 obtain⟨ad,x,rfl,_,_,c,b⟩:=h.2.2.bool hq;exact⟨ad,rfl,by rw [b];unfold zaC;rw [dF,c.out];rfl⟩
theorem brk_goal (h:GCaps w g4 ga g5 g12 g13 a p)(hv:zj a=kC)(hp:zj p=kC)(hx:x<=4611686018427387904) :
  kQ kN 174 #[.int kA (x:Nat),kV (gO g4),kV (gO g13),kV (gO g12),kV (gO g5)] w fun e w'=>e=kP (.bool (zaC a (x / p.next.length % a.next.length)&&!zaC p (x % p.next.length)))/\Ext w w':=by
 obtain⟨_,⟨s,J⟩,L,_⟩:=zl hv;obtain⟨_,⟨E,p2⟩,p3,_⟩:=zl hp;obtain⟨B,m,d,B',z,d',lo,hi,v,i⟩:=h.ha;obtain⟨C,n,c,C',D,c',af,V,u,l⟩:=h.h5;have o:=i.n2;have r:=l.n2;have t:=h.h4;have f:=h.h12;have g:=h.h13;clear h hv hp;generalize hNa:a.next.length=N at *;generalize hNp:p.next.length=b at *;have k:x / b % N<N:=iM _ s;have j:x % b<b:=iM _ E;obtain⟨ad,rfl,S⟩:=zfO i (q:=x / b % N) oM;obtain⟨M,rfl,T⟩:=zfO l (q:=x % b) oM;have U:(x:Int) / (b:Int)=((x / b:Nat):Int):=(iZ x b).symm;have X:((x / b:Nat):Int) % (N:Int)=((x / b % N:Nat):Int):=(iB _ N).symm;have y:(x:Int) % (b:Int)=((x % b:Nat):Int):=(iB x b).symm;have ae:x / b<=4611686018427387904:=dW (iU _ _) hx;have R:¬ (N=0):=oM;have Q:¬ (b=0):=oM;have aa:x / b % N<z:=oM;have ab:x % b<D:=oM;have K4:=t.cell 0;have Ka:=v.cell;have K5:=u.cell;have H:=f.cell 0;have I:=g.cell 0;clear t f g v u i l o r L p3 hNa hNp k j s J E p2;generalize x / b % N=F at *;generalize x % b=G at *;generalize x / b=xd at *;have Y:(F:Int)<(z:Int):=oM;have Z:(G:Int)<(D:Int):=oM;generalize zaC a F=O at *;generalize zaC p G=b2 at *;cases O
 all_goals
  go_enter Tryz.func174,Tryz.ntmps174
  go_wp2_with fail
  go_quiet (fail)
  go_wp2_with fail
  go_ret;exact⟨zu sM,(dB _).drewN _⟩
def zcj (ss:List Sys) (a p:Aut) (x l:Nat):List Nat:=(nx ss (x / p.next.length / a.next.length) l).1.map fun y=>y*a.next.length*p.next.length+(aGo a (x / p.next.length % a.next.length) l*p.next.length+aGo p (x % p.next.length) l)
theorem zdj (ss:List Sys) (a p:Aut):zcj ss a p=pnx (zbt ss [a,p]):=by
 funext x l
 rw [zcj,zbt,gF,gF,j3,pnx_under]
theorem mix_set {f:Nat->Nat}(hr:R[j]?=gO r):(zag (xs++(R.take j).map f++R.drop j)).set (xs.length+j) (.int kA (f r:Nat))=zag (xs++(R.take (j+1)).map f++R.drop (j+1)):=by
 have b:=(kT.1 hr).1;have a:R.drop j=r :: R.drop (j+1):=by
  have:=(kT.1 hr).2;rw [<- this];exact gG b
 unfold zag;rw [<- iX]
 congr 1
 rw [eB,hr,eS,eU,a,jF _ _ (by simp;omega)];have:xs.length+j - (xs++(R.take j).map f).length=0:=by simp;omega
 rw [this];simp
theorem mix_get {f:Nat->Nat}(hr:R[j]?=gO r):(zag (xs++(R.take j).map f++R.drop j))[xs.length+j]?=gO (.int kA (r:Nat)):=by
 have a:=(kT.1 hr).1;unfold zag;rw [eC,eD (by simp;omega)];have:xs.length+j - (xs++(R.take j).map f).length=0:=by simp;omega
 rw [this,List.getElem?_drop,iI,hr];rfl
def RetBrk (w:kJ) (base:Nat) (v:kL) (ys:List Nat) (e:Ending) (w':kJ):Prop:=∃ A' c',e=kP (fQ A' ys.length c')/\w'.ownsRow base 3 1 (fQ A' ys.length c') ys.length (zag ys)/\Frm (fun b=>v.ownBlock=gO b) w w'
theorem brk_next {w0:kJ}{c0:Nat}{Ao:Option Addr}(h:BCaps w0 g8 g10 g11 g12 g13 A M UA RA k c dm uc rc ss a p)(hT:Tab w0)(hw:Ext w0 w)(hs:∀ s∈ss,Sml s)(hk:k<=3)(hv:zj a=kC)(hp:zj p=kC)
  (hx:x<zH (zbt ss [a,p])) (hl:l<6) (hb0:w0.heap.size<=base) (hb:base<=w.heap.size) (hm:m<=1099511627776) (zkr:w.ownsRow base 3 1 (fQ Ao m c0) m (zag xs)) :
  kQ kN 173 #[.int kA (x:Nat),.int kA (l:Nat),fQ Ao m c0,kV (gO g10),kV (gO g13),kV (gO g12),kV (gO g11),kV (gO g8)] w (RetBrk w base (fQ Ao m c0) (xs++zcj ss a p x l)):=by
 obtain⟨_,⟨a1,a2⟩,_,_⟩:=zl hv;obtain⟨_,⟨p1,p2⟩,_,_⟩:=zl hp;have aF:=za (fun q (hq:q<a.next.length)=>zep hv hq hl);have aD:=za (fun q (hq:q<p.next.length)=>zep hp hq hl);have bX:zH (zbt ss [a,p])<=4096*144:=by
  have u:zbt ss [a,p]=ss.map zec++[zbE a,zbE p]:=rfl;rw [u,zcc];have h2:=zdt hs;obtain⟨lo,Y,ad,aa,h3⟩:=h.pt;have h4:16 ^ ss.length<=4096:=by
   calc 16 ^ ss.length<=16 ^ 3:=eL oM (oH h3.sys.1)
    _=4096:=dM
  have h5:zH [zbE a,zbE p]<=144:=by
   simp only [zH,zau,zbE,gF,j3,Nat.mul_one];exact fK a2 p2
  exact fK (dW h2 h4) h5
 have I:=za (fun y hy=>zji (ms:=zbt ss [a,p]) (x:=x) (fun mm hmm=>by
  rcases List.mem_append.1 hmm with u|u
  ·obtain⟨s,br,rfl⟩:=kW.1 u;exact zeI (hs s br)
  ·obtain⟨b,B,rfl⟩:=kW.1 u;simp at B;rcases B with rfl|rfl
   ·exact zbF hv
   ·exact zbF hp) hl y hy)
 have J:=za (nx_len hs (x / p.next.length / a.next.length) l);have O:=za (show zcj ss a p x l=(nx ss (x / p.next.length / a.next.length) l).1.map fun y=>y*a.next.length*p.next.length+(aGo a (x / p.next.length % a.next.length) l*p.next.length+aGo p (x % p.next.length) l) from rfl);have bg:=za (show ∀ y∈zcj ss a p x l,y<589824 from fun y hy=>by
  rw [zdj] at hy;have:=I.out y hy;omega)
 have HC:=za (fun W (hW:Ext w0 W)=>h.ext hW);have ag:∃ lo Y ad aa,∀ W,Ext w0 W->PtAt W lo Y A k ad aa M ss:=by
  obtain⟨lo,Y,ad,aa,h3⟩:=h.pt;exact⟨lo,Y,ad,aa,fun W hW=>h3.ext hW⟩
 obtain⟨lo,Y,ad,aa,ag⟩:=ag;have aR:=za ag;have HT:=za (fun W (hW:Ext w0 W)=>hT.ext hW);have Hs:=za hs;clear h hT hs hv hp I ag;obtain⟨N,hN⟩:∃ N,Hid (a.next.length=N):=⟨_,rfl⟩;obtain⟨r,af⟩:∃ r,Hid (p.next.length=r):=⟨_,rfl⟩;rw [hN.out] at a1 a2 aF J O;rw [af.out] at p1 p2 aD J O;have aZ:x / r % N<N:=iM _ a1;have aY:x % r<r:=iM _ p1;have hu:=aF.out _ aZ;have hr:=aD.out _ aY;obtain⟨ug,uo,rfl,V⟩:∃ g o,UA=gO ⟨g,o,gP⟩/\∀ W,Ext w0 W->W.cell? ⟨g,o+x / r % N*6+l,gP⟩=gO (.int kA (aGo a (x / r % N) l:Nat)):=by
  obtain⟨l1,u,aK⟩:=(HC.out w0 (dB _)).tu;obtain⟨g,o,e,hc⟩:=aK.at_ (q:=x / r % N) (by rw [hN.out];exact aZ) hl;exact⟨g,o,e,fun W hW=>hW.aa hc⟩
 obtain⟨rg,ro,rfl,U⟩:∃ g o,RA=gO ⟨g,o,gP⟩/\∀ W,Ext w0 W->W.cell? ⟨g,o+x % r*6+l,gP⟩=gO (.int kA (aGo p (x % r) l:Nat)):=by
  obtain⟨l1,u,aK⟩:=(HC.out w0 (dB _)).tr;obtain⟨g,o,e,hc⟩:=aK.at_ (q:=x % r) (by rw [af.out];exact aY) hl;exact⟨g,o,e,fun W hW=>hW.aa hc⟩
 have bY:(x:Int) / (r:Int)=((x / r:Nat):Int):=(iZ x r).symm;have a4:((x / r:Nat):Int) / (N:Int)=((x / r / N:Nat):Int):=(iZ _ N).symm;have b1:((x / r:Nat):Int) % (N:Int)=((x / r % N:Nat):Int):=(iB _ N).symm;have bF:(x:Int) % (r:Int)=((x % r:Nat):Int):=(iB x r).symm;have bw:x<=589824:=oM;have bu:x / r<=589824:=dW (iU _ _) bw;have b7:x / r / N<=589824:=dW (iU _ _) bu;have bW:¬ (N=0):=oM;have bV:¬ (r=0):=oM;have aH:aGo a (x / r % N) l*r<=12*12:=fK oM oM;obtain⟨rest,E⟩:∃ z:Nat,Hid (aGo a (x / r % N) l*r+aGo p (x % r) l=z):=⟨_,rfl⟩;obtain⟨um,ah⟩:∃ z:Nat,Hid (aGo a (x / r % N) l*r=z):=⟨_,rfl⟩;have bs:((aGo a (x / r % N) l:Nat):Int)*(r:Int)=(um:Int):=by rw [<- ah.out];exact (gU _ r).symm
 rw [ah.out] at aH;have L:rest=um+aGo p (x % r) l:=by rw [<- E.out,ah.out]
 have F:=za L;clear L;rw [E.out] at O;generalize aGo a (x / r % N) l=au at *;generalize aGo p (x % r) l=ap at *;generalize x / r % N=q1 at *;generalize x % r=q2 at *;generalize hxE:x / r / N=xe at *;have bh:=za hxE;clear hxE;generalize x / r=xd at *;clear aF aD E ah;have b2:(q1:Int)<(N:Int):=oM;have b3:(q2:Int)<(r:Int):=oM;have b0:(l:Int)<6:=oM;have aS:∀ W,Ext w0 W->∀ i,W.cell? ⟨g10,i,gP⟩=#[fQ (gO ⟨ug,uo,gP⟩) N uc][i]?:=fun W hW=>by have:=(HC.out W hW).h10.cell;rw [hN.out] at this;exact this
 have aT:∀ W,Ext w0 W->∀ i,W.cell? ⟨g11,i,gP⟩=#[fQ (gO ⟨rg,ro,gP⟩) r rc][i]?:=fun W hW=>by have:=(HC.out W hW).h11.cell;rw [af.out] at this;exact this
 have aU:∀ W,Ext w0 W->∀ i,W.cell? ⟨g12,i,gP⟩=#[Value.int kA (N:Nat)][i]?:=fun W hW=>by have:=(HC.out W hW).h12.cell;rw [hN.out] at this;exact this
 have aV:∀ W,Ext w0 W->∀ i,W.cell? ⟨g13,i,gP⟩=#[Value.int kA (r:Nat)][i]?:=fun W hW=>by have:=(HC.out W hW).h13.cell;rw [af.out] at this;exact this
 have K8:∀ W,Ext w0 W->∀ i,W.cell? ⟨g8,i,gP⟩=#[fQ A k c,fQ M k dm][i]?:=fun W hW=>(HC.out W hW).h8.cell;have Hk:=za (And.intro aS (And.intro aT (And.intro aU (And.intro aV K8))));have aQ:=za (And.intro V U);have ay:xs.length=m:=by have:=zdc zkr;simp [zag] at this;omega
 have C:=za ay;clear aS aT aU aV K8 V U ay;have a0:=za (show (nx ss xe l).1.length<=4096 from dW J.out (by
  obtain hh:=(aR.out w hw).sys.1
  calc 16 ^ ss.length<=16 ^ 3:=eL oM oM
   _=4096:=by decide))
 have CN:=za (fun W (hW:Ext w W)=>impl_next (c:=c) (d:=dm) (m:=xe) (l:=l) (v:=fQ Ao m c0) (n:=m) (xs:=zag xs) (base:=base) (aR.out W (hw.trans hW)) Hs.out oM oM hl (HT.out W (hw.trans hW)) (zh zkr hW) (dW hb hW.size) hm);have b4:rest<=1000:=oH F.out;have bq:(um:Int)+(ap:Int)=(rest:Int):=oH F.out;generalize (nx ss xe l).1=R at *;have a7:=za (fun b (B:(fQ Ao m c0).ownBlock=gO b)=>(zkr.lt b B).1);clear J bh zkr;have ao:=fun W (hW:Ext w W)=>Hk.out.1 W (hw.trans hW);have aq:=fun W (hW:Ext w W)=>Hk.out.2.1 W (hw.trans hW);have G:=fun W (hW:Ext w W)=>Hk.out.2.2.1 W (hw.trans hW);have H:=fun W (hW:Ext w W)=>Hk.out.2.2.2.1 W (hw.trans hW);have aG:=fun W (hW:Ext w W)=>Hk.out.2.2.2.2 W (hw.trans hW);have V:=fun W (hW:Ext w W)=>aQ.out.1 W (hw.trans hW);have U:=fun W (hW:Ext w W)=>aQ.out.2 W (hw.trans hW);have t:=dB w
 go_enter Tryz.func173,Tryz.ntmps173
 go_upto_region 1 with fail
 go_cut [12] (fun v wx=>v=.int kA (rest:Nat)/\Ext w wx)
 case first =>
  have b8:=ao w t;have b9:=aq w t;have bb:=G w t;have bc:=H w t;have cb:=V w t;have ca:=U w t
  go_quiet (fail)
  go_wp2_with fail
  go_meet;exact⟨gM,t.drewN _⟩
 case rest =>
  obtain⟨rfl,Q⟩:=hcut;clear V U ao aq;replace aG:=fun W (hW:Ext wc W)=>aG W (Q.trans hW);replace G:=fun W (hW:Ext wc W)=>G W (Q.trans hW);replace H:=fun W (hW:Ext wc W)=>H W (Q.trans hW);have ai:=dB wc;go_upto_region 3 with fail
  refine uR (fun X=>Ext wc X) [8] (zx.of [0,1,2,3,4,5,6,7,8,9]) ?_;refine uQ ?_;refine zb fun K hK=>?_;go_simp;have bp:IntKind.i64.wrap ((IntKind.i64.wrap (xd:Int)).tdiv (N:Int))=(xe:Int):=by
   rw [zhh xd oM,Int.tdiv_eq_ediv_of_nonneg oM,a4,zhh xe oM]
  rw [bp];refine (CN.out _ (Q.trans ai.drew)).mono ?_;rintro e w5 ⟨v',rfl,S,an,aw⟩;refine hK.out _ _ ?_;refine pT ?_;refine uQ ?_;refine zg ?_;rw [show zag xs++zag R=zag (xs++(R.take 0).map (fun y=>y*N*r+rest)++R.drop 0) by simp [zag]] at S;have bm:(zag xs).length=m:=by rw [<- C.out];simp [zag]
  rw [bm] at S;obtain⟨A5,c5,rfl⟩:=zi S;have D:Frm (fun b=>(fQ Ao m c0).ownBlock=gO b) w w5:=((Q.trans ai.drew).ak).trans (an.mono fun _ _ h=>h);have aE:Ext w0 w5:=(hw.ak.trans (D.mono fun b hb1 hb2=>hb2)).mono (T:=fun _=>False) (fun b hb1 hb2=>by have:=a7.out b hb2;omega);have ax:∀ b,(fQ A5 (m+R.length) c5).ownBlock=gO b->(fQ Ao m c0).ownBlock=gO b\/w.heap.size<=b:=fun b B=>by
   rcases aw with u|⟨b',u,h2⟩
   ·rw [u] at B;exact Or.inl B
   ·rw [u] at B;have:=kS B;have:=(Q.trans ai.drew).size;exact Or.inr oM
  have ak:=za ax;clear aw ax aG an G H ai;have Hx:=za (fun (W:kJ) (hW:Frm (fun b=>(fQ Ao m c0).ownBlock=gO b) w W)=>show Ext w0 W from (hw.ak.trans (hW.mono fun b _ h=>h)).mono (T:=fun _=>False) (fun b hb1 hb2=>by have:=a7.out b hb2;omega));have bn:m+R.length<=1099511627776+4096:=oH a0.out;obtain⟨Z,hZ⟩:∃ Z,Hid (m+R.length=Z):=⟨_,rfl⟩;rw [hZ.out] at bn S;rw [hZ.out] at ak;rw [hZ.out];go_wp2_with fail
  go_loopw [14] (fun i wr=>∃ i' j:Nat,i=.int kA (i':Nat)/\Hid (i'=m+j)/\j<=R.length/\wr.ownsRow base 3 1 (fQ A5 Z c5) Z (zag (xs++(R.take j).map (fun y=>y*N*r+rest)++R.drop j))/\Frm (fun b=>(fQ Ao m c0).ownBlock=gO b) w wr) (fun i _=>Z - (intOf i).toNat)
  case atStart=>exact⟨m,0,rfl,rfl,dH _,S,D⟩
  case round =>
   clear S D aE;obtain⟨i,j,rfl,Y,hj,zkr,D⟩:=hrel
   by_cases hlt:j<R.length
   ·obtain⟨y,hy⟩:∃ y,Hid (R[j]?=gO y):=⟨_,za (dE hlt)⟩;have av:=bg.out (y*N*r+rest) (by rw [O.out];exact kW.2 ⟨y,dC hy.out,rfl⟩);have aL:=Hx.out wr D;have bZ:i<Z:=by have:=Y.out;have:=hZ.out;omega
    obtain⟨g5,rfl⟩:∃ g,A5=gO ⟨g,0,gP⟩:=by
     rcases zkr.2 with ⟨u,h2⟩|⟨g,bR,bS,u,_⟩
     ·injection u;omega
     ·injection u with u;exact⟨g,u⟩
    have bo:=za (mix_get (xs:=xs) (f:=fun y=>y*N*r+rest) hy.out);have a3:wr.cell? ⟨g5,i,gP⟩=gO (.int kA (y:Nat)):=by
     have:=zkr.cellAt i oM;rw [this,<- bo.out,C.out,Y.out]
    have ab:=mix_set (xs:=xs) (f:=fun y=>y*N*r+rest) hy.out;rw [C.out,<- Y.out] at ab;have bb:=fun W (hW:Ext wr W)=>Hk.out.2.2.1 W (aL.trans hW);have bc:=fun W (hW:Ext wr W)=>Hk.out.2.2.2.1 W (aL.trans hW);have CY:∀ W,Ext wr W->W.cell? ⟨g5,i,gP⟩=gO (.int kA (y:Nat)):=fun W hW=>hW.aa a3;have a9:y*N<=y*N*r:=kE _ p1;obtain⟨yn,aN⟩:∃ z:Nat,Hid (y*N=z):=⟨_,rfl⟩;have bH:(y:Int)*(N:Int)=(yn:Int):=by rw [<- aN.out];exact (gU y N).symm
    rw [aN.out] at av ab a9;obtain⟨ym,ba⟩:∃ z:Nat,Hid (yn*r=z):=⟨_,rfl⟩;have bG:(yn:Int)*(r:Int)=(ym:Int):=by rw [<- ba.out];exact (gU yn r).symm
    rw [ba.out] at av ab a9;have bx:y<=y*N:=kE _ a1;rw [aN.out] at bx;have a6:(i:Int)<(Z:Int):=oM;have b5:IntKind.i64.wrap (yn:Int)=(yn:Int):=zhh yn oM;have b6:IntKind.i64.wrap (ym:Int)=(ym:Int):=zhh ym oM;have bt:IntKind.i64.wrap ((ym:Int)+(rest:Int))=((ym+rest:Nat):Int):=by rw [<- gV];exact zhh (ym+rest) oM
    have t:=dB wr;clear a3 aL;go_upto_region 7 with fail
    refine uR (fun X=>Ext wr X) [13] (zx.of [0,1,2,3,4,5,6,7,8,9,10,11,12,13]) ?_;refine uQ ?_;have aj:=zh zkr t.drew;have am:=D.ext t.drew;clear zkr D bb bc CY t;generalize wr.drew=wd at *;obtain⟨o0,g0⟩:=zaM aj i oM;have f0:=aj.frozenAt i;have aJ:=aj.stored i (.int kA ((ym+rest:Nat):Int));rw [ab] at aJ;have aI:=aJ.1;have a5:Frm (fun b=>(fQ Ao m c0).ownBlock=gO b) w (wd.setCell ⟨g5,i,gP⟩ (.int kA ((ym+rest:Nat):Int))):=by
     rcases ak.out g5 rfl with u|u
     ·exact am.cell (p:=⟨g5,i,gP⟩) u _
     ·have h2:Frm (fun b=>(fQ Ao m c0).ownBlock=gO b\/b=g5) w (wd.setCell ⟨g5,i,gP⟩ (.int kA ((ym+rest:Nat):Int))):=(am.mono fun _ _ h=>Or.inl h).trans ((dG wd g5 i _).mono fun _ _ h=>Or.inr h);exact h2.mono fun b hb h=>h.elim id (fun e=>oM)
    clear aJ ab aj;have bl:=za (show i+1=m+(j+1) by rw [Y.out];omega);refine zb fun K hK=>?_;go_simp;refine hK.out _ _ ?_;refine zg ?_
    first|rw [bt]|skip
    go_wp2_with fail
    go_roundw
    case rel=>exact⟨i+1,j+1,gM,bl,oM,aI,a5⟩
    case measure=>exact uM
   ·obtain rfl:j=R.length:=oM;have bC:=za (show wr.ownsRow base 3 1 (.slice A5 (xs++zcj ss a p x l).length c5) (xs++zcj ss a p x l).length (zag (xs++zcj ss a p x l)) by
     rw [O.out,eA,eF,C.out,hZ.out];rw [eZ,List.drop_length,iA] at zkr;exact zkr)
    have ar:(xs++zcj ss a p x l).length=Z:=by rw [O.out,eA,eF,C.out,hZ.out]
    have a8:=za (show RetBrk w base (fQ Ao m c0) (xs++zcj ss a p x l) (kP (fQ A5 Z c5)) wr from ⟨A5,c5,by rw [ar],bC.out,D⟩);clear ar;have a6:¬ (i:Int)<(Z:Int):=by have:=Y.out;have:=hZ.out;omega
    clear zkr;go_wp2;go_ret;exact a8.out
theorem areParts_1 (h:zR w lo hi A n s) :
  kQ kN 170 #[kO #[s.al,s.st,fQ A n c]] w fun e w'=>e=kP (.bool (!zk s))/\Ext w w':=by
 go_enter Tryz.func170,Tryz.ntmps170
 go_wp2_with (go_at_call 65;refine (zaG (h.ext ?_)).mono ?_;exact (dB _).alloc _;rintro e w' ⟨rfl,a⟩)
 go_ret;exact⟨rfl,((dB _).alloc _).trans a⟩
theorem zhO (h:zeo w lo hi A n ss) :
  kQ kN 254 #[fQ A n c,.func (.func 170) #[] #[]] w fun e w'=>∃ r:Int,e=kP (.int kA r)/\decide (0<=r)=ss.any (fun s=>!zk s) /\ -1<=r/\Ext w w':=by
 have C:=h.len;have p:=za h.1
 go_enter Tryz.func254,Tryz.ntmps254
 go_wp2
 go_loopw [8] (fun i wr=>∃ k:Nat,k<=n/\i=.int kA k/\Hid ((ss.take k).any (fun s=>!zk s)=kK)/\Ext w wr) (fun i _=>n - (intOf i).toNat)
 case atStart=>exact⟨0,dH _,rfl,rfl,dB _⟩
 case round =>
  obtain⟨k,z,rfl,f,a⟩:=hrel
  by_cases hlt:k<n
  ·obtain⟨b,o,s,B,q,d,rfl,u,t,l,v,x,y,j⟩:=(h.ext a).sys hlt;cases hb:zk s
   all_goals
    have g:=za hb;clear hb;go_wp2_with (go_at_call 170;refine (areParts_1 j).mono ?_;rw [g.out];rintro e w' ⟨rfl,m⟩)
   ·go_ret;exact⟨k,rfl,by rw [List.any_eq_true.2 ⟨s,dC l.out,by rw [g.out];rfl⟩];simp,oM,a.trans m⟩
   ·go_roundw
    case rel=>exact⟨k+1,oM,gM,by unfold Hid;rw [eB,l.out,List.any_append,f.out];simp [g.out],a.trans m⟩
    case measure=>exact uM
  ·obtain rfl:k=n:=oM;go_wp2;go_ret;have:=f.out;rw [p.out,eZ] at this;exact⟨-1,rfl,by rw [this];decide,oM,a⟩
theorem zfU (h:zeo w lo hi A n ss) :
  kQ kN 169 #[fQ A n c,.func (.func 170) #[] #[]] w fun e w'=>e=kP (.bool (ss.any (fun s=>!zk s)))/\Ext w w':=by
 go_enter Tryz.func169,Tryz.ntmps169
 cases hb:ss.any (fun s=>!zk s)
 all_goals
  have b:=za hb;clear hb;go_wp2_with (go_at_call 254;refine (zhO h).mono ?_;rw [b.out];rintro e w' ⟨r,rfl,d,f,g⟩)
  go_ret;exact⟨zu (by have a:=d;simp at a;simp<;>omega),g⟩
def zA (ss:List Sys):Bool:=decide (1<=ss.length)&&(decide (ss.length<=3)&&ss.all zk)
theorem zaU (h:zeo w lo hi A n ss) :
  kQ kN 78 #[fQ A n c] w fun e w'=>e=kP (.bool (zA ss))/\Ext w w':=by
 have g:=h.len;have a:=za h.1;have b:ss.any (fun s=>!zk s)=!ss.all zk:=by rw [Bool.eq_iff_iff];simp
 have d:=za b;clear b
 by_cases h1:1<=n
 ·by_cases h3:n<=3
  ·go_enter Tryz.func78,Tryz.ntmps78
   go_wp2_with (go_at_call 169;refine (zfU h).mono ?_;rw [d.out];rintro e w' ⟨rfl,f⟩)
   go_ret;exact⟨zu (by have:=a.out;unfold zA;rw [decide_eq_true oM,decide_eq_true oM];simp),f⟩
  ·go_enter Tryz.func78,Tryz.ntmps78
   go_wp2;go_ret;exact⟨zu (by have:=a.out;unfold zA;rw [decide_eq_false (by omega:¬ ss.length<=3)];simp),dB _⟩
 ·go_enter Tryz.func78,Tryz.ntmps78
  go_wp2;go_ret;exact⟨zu (by have:=a.out;unfold zA;rw [decide_eq_false (by omega:¬ 1<=ss.length)];simp),dB _⟩
theorem zS (lo hi:Nat) (A:Option Addr) (n c:Nat) (A':Option Addr) (n' c':Nat) (a:Aut) (w:kJ)(h:zF w lo hi A n A' n' a) :
  kQ kN 25 #[kO #[a.al,fQ A n c,fQ A' n' c']] w fun e w'=>e=kP (.bool (zj a))/\Ext w w':=by
 have C:=h.n1;have I:=h.n2;have p:=za (show zj a=(decide (0<=a.al/\a.al<=63)&&(decide (1<=n/\n<=12)&&(decide (n'=n)&&a.next.all (zjX (letters a.al.toNat 6).length n)))) by unfold zj;rw [<- C,<- I]);have T:=h.1.len;have U:=h.2.2.len;clear C I
 by_cases hal:0<=a.al/\a.al<=63
 ·have t:=za (show decide (0<=a.al/\a.al<=63)=kC by simp;omega)
  by_cases hn:1<=n/\n<=12
  ·have Q:decide ((n:Int)<1)=kK:=by simp;omega
   have R:decide (12<(n:Int))=kK:=by simp;omega
   by_cases hn':n'=n
   ·subst hn';obtain⟨al,d⟩:∃ al:Nat,Hid (a.al=al):=⟨a.al.toNat,by unfold Hid;omega⟩;have G:Sm al:=by have:=d.out;unfold Sm;omega
    have D:=zB al 6;rw [d.out];rw [d.out] at t;rw [d.out,eT] at p;clear hal;have J:=fun W (hW:Ext w W)=>h.1.ext hW;have M:=za J;clear J
    go_enter Tryz.func25,Tryz.ntmps25
    go_wp2_with (first
     |(go_at_call 82;refine (zaz _ _).mono ?_;rw [t.out];rintro e w' ⟨rfl,rfl⟩)
     |(go_at_call 67;refine (zah _ G _).mono ?_;rintro e Y ⟨A2,c2,rfl,Z,b⟩;have r:=zcs b))
    go_loopw [40] (fun i wr=>∃ k:Nat,k<=n'/\i=.int kA k/\Hid ((a.next.take k).all (zjX (letters al 6).length n')=kC)/\Ext Y wr)
     (fun i _=>n' - (intOf i).toNat)
    case atStart=>exact⟨0,dH _,rfl,rfl,dB _⟩
    case round =>
     obtain⟨k,hk,rfl,f,v⟩:=hrel;have L:∀ W,Ext wr W->∀ j,W.cell? ⟨w.heap.size,j,gP⟩=#[Value.int kA al,fQ A n' c,fQ A' n' c'][j]?:=fun W hW=>zcs ((b.trans v).trans hW);have X:=dB wr;clear r;have o:Ext w wr:=(((dB _).alloc _).trans b).trans v
     by_cases hlt:k<n'
     ·obtain⟨ad,Ak,ck,l,rfl,V,S,B,s,y⟩:=(M.out wr o).row hlt
      by_cases hlk:l.length=(letters al 6).length
      ·obtain⟨m,E⟩:∃ m,Hid ((letters al 6).length=m):=⟨_,rfl⟩;have u:Hid (l.length=m):=by have:=E.out;unfold Hid;omega
       rw [E.out] at D ⊢;rw [E.out] at f p;rw [u.out] at s y;clear hlk;go_wp2_with fail
       go_loop [50] (fun i=>∃ j:Nat,j<=m/\i=.int kA j/\Hid ((l.take j).all (fun q=>decide (0<=q/\q<n'))=kC)) (fun i=>m - (intOf i).toNat)
       case atStart=>exact⟨0,dH _,rfl,rfl⟩
       case round =>
        obtain⟨j,hj,rfl,g⟩:=hrel
        by_cases hltj:j<m
        ·obtain⟨O,x,rfl,_,_,H,z⟩:=y.int hltj
         by_cases h0:x<0
         ·go_wp2;go_ret;exact⟨zu (by rw [p.out,zaT B.out (by rw [zjX,zaT H.out (by simp;omega),jL])];simp),o⟩
         ·by_cases C:(n':Int)<=x
          ·go_wp2;go_ret;exact⟨zu (by rw [p.out,zaT B.out (by rw [zjX,zaT H.out (by simp;omega),jL])];simp),o⟩
          ·go_wp2
           go_round
           case rel=>exact⟨j+1,oM,gM,zcO H.out g.out (by simp;omega)⟩
           case measure=>exact uM
        ·obtain rfl:j=m:=oM;go_wp2;go_roundw
         case rel=>exact⟨k+1,oM,gM,zcO B.out f.out (by rw [zjX,zfw (oH u.out) g.out,u.out];simp),v⟩
         case measure=>exact uM
      ·have F:((l.length:Int) != ((letters al 6).length:Int))=kC:=by simp;omega
       go_wp2;go_ret;exact⟨zu (by rw [p.out,zaT B.out (by simp [zjX,hlk])];simp),o⟩
     ·obtain rfl:k=n':=oM;go_wp2;go_ret;exact⟨zu (by rw [p.out,zfw (oH h.n1) f.out,t.out];simp;omega),o⟩
   ·have F:((n':Int) != (n:Int))=kC:=by simp;omega
    go_enter Tryz.func25,Tryz.ntmps25
    go_wp2_with (go_at_call 82;refine (zaz _ _).mono ?_;rw [t.out];rintro e w' ⟨rfl,rfl⟩)
    go_ret;exact⟨zu (by rw [p.out];simp [hn']),(dB _).alloc _⟩
  ·go_enter Tryz.func25,Tryz.ntmps25
   go_wp2_with (go_at_call 82;refine (zaz _ _).mono ?_;rw [t.out];rintro e w' ⟨rfl,rfl⟩)
   all_goals go_ret
   all_goals exact⟨zu (by rw [p.out];simp [hn]),(dB _).alloc _⟩
 ·go_enter Tryz.func25,Tryz.ntmps25
  have t:decide (0<=a.al/\a.al<=63)=kK:=by simp;omega
  go_wp2_with (go_at_call 82;refine (zaz _ _).mono ?_;rw [t];rintro e w' ⟨rfl,rfl⟩)
  go_ret;exact⟨zu (by rw [p.out];simp;omega),(dB _).alloc _⟩
def autNone (a:Aut):Bool:=decide (a.al=0)&&(decide (a.next.length=0)&&decide (a.acc.length=0))
def zE (ss:List Sys):Nat:=ss.foldl (fun a s=>a|||s.al.toNat) 0
theorem zcy (h:ss[k]?=gO s):zE (ss.take (k+1))=zE (ss.take k)|||s.al.toNat:=by
 rw [eB,h];simp [zE]
theorem zI (h:zk s=kC):0<=s.al/\s.al<=63:=by
 simp only [zk,dI,decide_eq_true_eq] at h;exact h.1
def zbl (ss:List Sys):Int:=if zA ss then (zE ss:Int) else -1
theorem zaE (h:zeo w lo hi A n ss) :
  kQ kN 206 #[fQ A n c] w fun e w'=>e=kP (.int kA (zbl ss))/\Ext w w':=by
 have S:=h.len;have t:=za h.1
 by_cases r:n<1
 ·go_enter Tryz.func206,Tryz.ntmps206
  go_wp2;go_ret;exact⟨zao (by have:=t.out;unfold zbl zA;rw [decide_eq_false oM];simp),dB _⟩
 by_cases h3:n>3
 ·go_enter Tryz.func206,Tryz.ntmps206
  go_wp2;go_ret;exact⟨zao (by have:=t.out;unfold zbl zA;rw [decide_eq_false (by omega:¬ ss.length<=3)];simp),dB _⟩
 go_enter Tryz.func206,Tryz.ntmps206
 go_wp2
 go_loopw [3,4] (fun v i wr=>∃ k:Nat,k<=n/\i=.int kA k/\∃ u:Nat,v=.int kA u/\u<=63/\Hid (u=zE (ss.take k))/\Hid ((ss.take k).all zk=kC)/\Ext w wr) (fun _ i _=>n - (intOf i).toNat)
 case atStart=>exact⟨0,dH _,rfl,0,rfl,oM,rfl,rfl,dB _⟩
 case round =>
  obtain⟨k,R,rfl,u,rfl,T,m,g,f⟩:=hrel
  by_cases hlt:k<n
  ·obtain⟨b,o,s,B,q,d,rfl,M,L,z,G,O,Q,l⟩:=(h.ext f).sys hlt;cases hb:zk s
   ·have j:=za hb;clear hb;go_wp2_with (go_at_call 185;refine (zas l).mono ?_;rw [j.out];rintro e w' ⟨rfl,p⟩)
    go_ret;exact⟨zao (by unfold zbl;rw [if_neg];unfold zA;simp;intro _ _;exact⟨s,dC z.out,j.out⟩),f.trans p⟩
   ·obtain⟨I,J⟩:=zI hb;have j:=za hb;clear hb;have F:=za (zcy z.out);have E:=za (zbn (a:=u) (b:=s.al.toNat) tM tM);have D:=za (show ((s.al.toNat:Nat):Int)=s.al by omega);go_wp2_with (go_at_call 185;refine (zas l).mono ?_;rw [j.out];rintro e w' ⟨rfl,p⟩;have H:=p.aa G)
    go_roundw
    case rel=>exact⟨k+1,oM,gM,u|||s.al.toNat,by have:=E.out;rw [D.out] at this;rw [<- this],by have:=eX (n:=6) (x:=u) (y:=s.al.toNat) oM oM;omega,by unfold Hid;rw [F.out,m.out],by unfold Hid;rw [eB,z.out,List.all_append,g.out];simp [j.out],f.trans p⟩
    case measure=>exact uM
  ·obtain rfl:k=n:=oM;go_wp2;go_ret;exact⟨zao (by have:=t.out;have r:=m.out;have C:=g.out;rw [this,eZ] at r C;unfold zbl zA;rw [decide_eq_true oM,decide_eq_true oM,C,r];rfl),f⟩
theorem zdl (h:zeo w lo hi A n ss) :
  kQ kN 86 #[fQ A n c] w fun e w'=>e=kP (.int kA (zbl ss))/\Ext w w':=by
 have R:=h.len;have I:=za h.1;have p:=za (fun W (hW:Ext w W)=>h.ext hW);clear h;cases hp:zA ss
 ·have r:=za hp;have C:=za (show zbl ss = -1 by unfold zbl;rw [hp];rfl);clear hp
  go_enter Tryz.func86,Tryz.ntmps86
  go_wp2_with (go_at_call 78;refine (zaU (p.out _ (dB _))).mono ?_;rw [r.out];rintro e L ⟨rfl,f⟩)
  go_ret;exact⟨zao (by rw [C.out]),f⟩
 ·have r:=za hp;have C:=za (show zbl ss=(zE ss:Int) by unfold zbl;rw [hp];rfl);have J:=za (show ∀ s∈ss,zk s=kC by
   unfold zA at hp;simp only [dI,List.all_eq_true] at hp;exact hp.2.2)
  clear hp
  go_enter Tryz.func86,Tryz.ntmps86
  go_wp2_with (go_at_call 78;refine (zaU (p.out _ (dB _))).mono ?_;rw [r.out];rintro e L ⟨rfl,f⟩)
  go_loopw [3,5,11] (fun v _ i wr=>∃ k u:Nat,k<=n/\i=.int kA k/\v=.int kA u/\u<=63/\Hid (u=zE (ss.take k))/\Ext w wr) (fun _ _ i _=>n - (intOf i).toNat)
  case atStart=>exact⟨0,0,dH _,rfl,rfl,oM,rfl,f⟩
  case round =>
   clear f;obtain⟨k,u,Q,rfl,rfl,T,j,f⟩:=hrel
   by_cases hlt:k<n
   ·obtain⟨b,o,s,B,q,d,rfl,_,_,F,H,M,O,_⟩:=(p.out wr f).sys hlt;obtain⟨t,z⟩:=zI (J.out s (dC F.out));obtain⟨g,l⟩:∃ g:Nat,Hid (s.al=g):=⟨s.al.toNat,by unfold Hid;omega⟩;rw [l.out] at H t z;have G:=za (show zE (ss.take (k+1))=u|||g by rw [zcy F.out,l.out,eT,j.out]);have E:=za (zbn (a:=u) (b:=g) tM tM);have m:u|||g<=63:=by have:=eX (n:=6) (x:=u) (y:=g) oM oM;omega
    have S:=E.out;clear j;go_wp2_with fail
    go_roundw
    case rel=>exact⟨k+1,u|||g,oM,gM,by first|rfl|rw [E.out],m,G.out.symm,by first|exact f.alloc _|exact (f.alloc _).drew⟩
    case measure=>exact uM
   ·obtain rfl:n=k:=oM;have D:=za (show zbl ss=(u:Int) by rw [C.out,j.out,dK (oH I.out)]);go_wp2;go_ret;exact⟨zao (by rw [D.out]),f⟩
end Go.Proofs.YtckbjnndaaoddaaGreatDoor
