/- impl.tableOf -/
import Derived.Test.YtckbjnndaaoddaaGreatDoorN05
set_option maxHeartbeats 4000000
set_option maxRecDepth 100000
namespace Go.Proofs.YtckbjnndaaoddaaGreatDoor
open Go Go.RowKit
open Ext renaming refl->dB
open Frm renaming setCell->dH
open Int renaming natCast_ediv->iB,natCast_emod->gC,natCast_mul->fJ,toNat_natCast->eN
open List renaming drop_eq_getElem_cons->fN,getD_eq_getElem?_getD->dF,getElem?_append_right->dP,getElem?_map->dS,getElem?_range->gS,length_append->dN,length_map->dQ,length_take->eT,map_append->eK,map_congr_left->jG,map_cons->eY,map_map->iK,mem_of_getElem?->dC,take_add_one->dO,take_length->eI
open Nat renaming div_le_self->hY,le_mul_of_pos_right->jM,le_refl->dE,le_trans->dL,mod_lt->gF,mul_le_mul->eR,pow_le_pow_right->dV,zero_le->dG
open Option renaming map_eq_some_iff->fQ,map_some->iZ,toList_some->eD
open Reads renaming af->eE
variable {A B B' M RA UA:Option Addr} {R xs:List Nat} {a p:Aut} {base c d d' dm g10 g11 g12 g13 g4 g5 g8 ga hi hi' j k l lo lo' m m' n q r rc uc x:Nat} {ss:List Sys} {w w':World}
theorem info_row6:(Tryz.prog.info? 166).map (fun i=>(i.zero,i.size,i.bytes))=some (some (.agg (Array.replicate 6 (.int .i64 0))),6,48):=kM
theorem zgS {a:Nat}(hb:a.testBit l=true):∀ n,l<n->(letters a n)[place a l]?=some l:=by
 intro n
 induction n with
 |zero=>intro h;omega
 |succ n ih =>
  intro h;rw [zaX]
  by_cases e:n=l
  ·subst e;rw [dP (by exact dE _)];simp [place,hb]
  ·have b:=ih oM;rw [List.getElem?_append_left (List.getElem?_eq_some_iff.1 b).1];exact b
theorem ziD {a:Nat}(h:(letters a n)[k]?=some l):place a l=k:=by
 have f:=zG.1 (dC h);have i:=zgS f.2 n f.1;have g:=List.pairwise_iff_getElem.1 (show (letters a n).Pairwise (·<·) from List.Pairwise.filter _ List.pairwise_lt_range);obtain⟨c,j⟩:=List.getElem?_eq_some_iff.1 h;obtain⟨d,m⟩:=List.getElem?_eq_some_iff.1 i;rcases Nat.lt_trichotomy (place a l) k with b|b|b
 ·have:=g _ _ d c b;omega
 ·exact b
 ·have:=g _ _ c d b;omega
def tbC (n:Nat) (f:Nat->Nat->Nat):List Value:=zae ((List.range (n*6)).map fun i=>f (i / 6) (i % 6))
theorem tbC_set {v:Nat} {f g:Nat->Nat->Nat}(hq:q<n)(hl:l<6)(h:∀ a b,a<n->b<6->g a b=if a=q∧b=l then v else f a b):(tbC n f).set (q*6+l) (.int .i64 (v:Nat))=tbC n g:=by
 unfold tbC zae;rw [iK,iK];refine List.ext_getElem? fun i=>?_;rw [List.getElem?_set];simp only [dQ,List.length_range,dS]
 by_cases hi:i<n*6
 ·rw [gS hi];simp only [iZ,Function.comp];rw [h (i / 6) (i % 6) oM oM]
  by_cases e:q*6+l=i
  ·rw [if_pos e,if_pos oM,if_pos ⟨oM,oM⟩]
  ·rw [if_neg e,if_neg oM]
 ·rw [List.getElem?_eq_none (l:=List.range (n*6)) (by simp;omega)]
  by_cases e:q*6+l=i
  ·omega
  ·rw [if_neg e];rfl
theorem tbC_get {f:Nat->Nat->Nat}(hq:q<n)(hl:l<6):(tbC n f)[q*6+l]?=some (.int .i64 (f q l:Nat)):=by
 unfold tbC zae;rw [dS,dS,gS oM];simp only [iZ];rw [show (q*6+l) / 6=q by omega,show (q*6+l) % 6=l by omega]
theorem tbC_congr {f g:Nat->Nat->Nat}(h:∀ a b,a<n->b<6->f a b=g a b):tbC n f=tbC n g:=by
 unfold tbC
 congr 1
 refine jG fun i hi=>?_;rw [List.mem_range] at hi;exact h _ _ oM oM
theorem tb_made (n:Nat):(madeCells (Value.agg (Array.replicate 6 (.int .i64 0))).cells (n*6)).toList=tbC n (fun _ _=>0):=by
 unfold madeCells tbC zae;simp only [Value.cells,Array.toList_map,Array.toList_range,iK];refine jG fun i _=>?_;simp only [Function.comp,Array.size_replicate];rw [getElem!_pos _ _ (by simp;omega),Array.getElem_replicate];rfl
def TbAt (w:World) (lo hi:Nat) (A:Option Addr) (a:Aut):Prop:=Reads w lo hi 6 A a.next.length (tbC a.next.length (aGo a))
theorem TbAt.ext (h:TbAt w lo hi A a)(hx:Ext w w'):TbAt w' lo hi A a:=Reads.ext h hx
theorem TbAt.at_ (h:TbAt w lo hi A a)(hq:q<a.next.length)(hl:l<6):∃ g o,A=some ⟨g,o,none⟩∧w.cell? ⟨g,o+q*6+l,none⟩=some (.int .i64 (aGo a q l:Nat)):=by
 obtain⟨b,e,_,_,d⟩:=Reads.at_ h hq;have i:=d (0*6+0) _ (tbC_get oM oM);have f:=zcU i;have c:=d (q*6+l) _ (tbC_get hq hl);rw [f,zX,← Nat.add_assoc] at c;exact⟨b.block,b.off,by rw [e,← f],c⟩
def TbO (w:World) (A:Option Addr) (c:Nat) (a:Aut):Prop:=∃ base,w.ownsRow base 166 6 (.slice A a.next.length c) a.next.length (tbC a.next.length (aGo a))
theorem TbO.at_ (h:TbO w A c a):∃ lo hi,TbAt w lo hi A a:=by
 obtain⟨b,h⟩:=h;exact⟨_,_,eE h⟩
theorem TbO.ext (h:TbO w A c a)(hx:Ext w w'):TbO w' A c a:=by
 obtain⟨b,h⟩:=h;exact⟨b,zh h hx⟩
theorem TbO.set {g:Nat}   {cs:Array Value} {t:TypeId}(h:TbO w A c a)(hg:Blk w g t cs)(ht:166≠t) (v:Value):TbO (w.setCell g v) A c a:=by
 obtain⟨d,h⟩:=h;exact⟨d,zf h (dH w g 0 v) (fun b hb e=>by
  subst e;rcases h.2 with ⟨f,_⟩|⟨k,i,j,f,_,l,_⟩
  ·rw [f] at hb;simp [Value.ownBlock] at hb
  ·rw [f] at hb;have:k=b:=by simpa [Value.ownBlock] using hb
   subst this;unfold Blk at hg;rw [l] at hg;injection hg with hg
   injection hg with _ h2
   exact ht h2)⟩
def RetTb (w:World) (a:Aut) (e:Ending) (w':World):Prop:=∃ A c,e=.returned (.slice A a.next.length c)∧TbO w' A c a∧Ext w w'
def RetTb2 (w:World) (a:Aut) (e:Ending) (w':World):Prop:=∃ A c,e=.returned (.slice A a.next.length c)∧(∃ base,w.heap.size<=base∧w'.ownsRow base 166 6 (.slice A a.next.length c) a.next.length (tbC a.next.length (aGo a)))∧Ext w w'
theorem zfm {N:Nat}      (h:zH w lo hi B m B' m' a)(hv:Fit N a)(hN:N<=100) :
  Calls Tryz.prog 119 #[.agg #[a.al,.slice B m d,.slice B' m' d']] w (RetTb2 w a):=by
 obtain⟨⟨aB,aC⟩,⟨n1,aJ⟩,_,G⟩:=hv.row;obtain⟨al,O⟩:∃ al:Nat,Hid (a.al=al):=⟨a.al.toNat,by unfold Hid;omega⟩;have aH:Sm al:=by have:=O.out;unfold Sm;omega
 have M:=za (show a.al.toNat=al by have:=O.out;omega);have Hn:=za h.n1;have HN:=za (fun W (hW:Ext w W)=>h.1.ext hW);have ae:=za G;have aN:m<=100:=by rw [h.n1];omega
 have aX:=zy al 6;clear G h n1 aJ hv hN;rw [O.out];clear aB aC
 go_enter Tryz.func119,Tryz.ntmps119
 go_upto_region 1 with fail
 generalize U0:w.alloc _=f at *;obtain⟨T,Q⟩:=Ext.x1_ U0;clear U0;have c1:=Q.cell;go_upto_region 2 with (at_make;refine zbm f f rfl _ _ 148 rfl 166 _ 6 48 Tryz.underlying148 info_row6 _ _ m rfl rfl (dB _) oM lM ?_;intro w2 hx12 zjo hx2 hsz2)
 rw [tb_made] at zjo;have c2:=(Q.ext hx12).cell;clear hx2 hsz2;go_upto_region 3 with (go_at_call 67;refine (zbv al aH _).mono ?_;rintro e w3 ⟨AL,cL,rfl,E,ap⟩)
 have L:=hx12.trans ap;have av:=zh zjo ap;have c:=Lst.ai E;have aI:=hx12.size;have c3:=(Q.ext L).cell;have aV:f.heap.size<w2.heap.size:=by
  have:=(zjo.lt f.heap.size rfl).2;exact this
 clear E c2 zjo;generalize hlq:letters al 6=u at *;have z:=za hlq;clear hlq;go_wp2_with fail
 go_loopw [5,6,7,8,9,20] (fun _ _ _ _ _ i wr=>∃ (q:Nat) (F:Nat->Nat->Nat),i=.int .i64 q∧q<=m∧Hid (∀ x y,x<q->y<6->F x y=aGo a x y)∧wr.ownsRow f.heap.size 166 6 (.slice (some f.heap.size) m m) m (tbC m F)∧Ext f wr∧Lst zbs wr w2.heap.size w3.heap.size AL u) (fun _ _ _ _ _ i _=>m - (intOf i).toNat)
 case atStart=>exact⟨0,_,rfl,dG _,(show Hid _ from fun x y h=>oM),av,L,c⟩
 case round =>
  clear av c c3;obtain⟨q,F,rfl,hq,o,b,t,c⟩:=hrel
  by_cases hlt:q<m
  ·obtain⟨ad,Ak,ck,row,rfl,_,_,J,ag,am⟩:=(HN.out f T).row hlt;obtain⟨S,ak⟩:=ae.out q row J.out;rw [M.out,z.out] at S;have ay:=za ak;have ab:=za S;have az:=za (fun W (hW:Ext f W)=>am.ext hW);have ah:=t.aa ag;clear am ak ag S;go_wp2_with fail
   go_loopw [7,25] (fun _ i wr=>∃ (l:Nat) (F:Nat->Nat->Nat),i=.int .i64 l∧l<=6∧Hid ((∀ x y,x<q->y<6->F x y=aGo a x y)∧∀ y,y<l->F q y=q)∧wr.ownsRow f.heap.size 166 6 (.slice (some f.heap.size) m m) m (tbC m F)∧Ext f wr∧Lst zbs wr w2.heap.size w3.heap.size AL u) (fun _ i _=>6 - (intOf i).toNat)
   case atStart=>exact⟨0,F,rfl,dG _,(show Hid _ from ⟨o.out,fun y h=>oM⟩),b,t,c⟩
   case round =>
    clear b t c o ah;obtain⟨l,F,rfl,hl,o,b,t,c⟩:=hrel
    by_cases R:l<6
    ·obtain⟨o0,g0⟩:=zaM b (q*6+l) oM;have f0:=b.frozenAt (q*6+l);have s:=b.stored (q*6+l) (.int .i64 (q:Nat));rw [tbC_set (g:=fun x y=>if x=q∧y=l then q else F x y) hlt R (fun _ _ _ _=>rfl)] at s;have r:=s.1;have V:Ext f (wr.setCell ⟨f.heap.size,q*6+l,none⟩ (.int .i64 (q:Nat))):=t.setCell (p:=⟨f.heap.size,q*6+l,none⟩) (dE _) _;have D:Lst zbs (wr.setCell ⟨f.heap.size,q*6+l,none⟩ (.int .i64 (q:Nat))) w2.heap.size w3.heap.size AL u:=c.frm zbs.ok (dH wr f.heap.size (q*6+l) _) (fun k H h2 e=>oM);have C:=za (show (∀ x y,x<q->y<6->(if x=q∧y=l then q else F x y)=aGo a x y)∧∀ y,y<l+1->(if q=q∧y=l then q else F q y)=q from ⟨fun x y H h2=>by rw [if_neg oM];exact o.out.1 x y H h2,fun y h=>by
      by_cases e:y=l
      ·rw [if_pos ⟨rfl,e⟩]
      ·rw [if_neg oM];exact o.out.2 y oM⟩)
     clear s b c t;go_wp2_with fail
     go_roundw
     case rel=>exact⟨l+1,_,gM,oM,C,r,V,D⟩
     case measure=>simp [intOf];omega
    ·have aj:=za (show 6<=l by omega);go_wp2_with fail
     go_loopw [8,9,37] (fun _ _ i wr=>∃ (k:Nat) (F:Nat->Nat->Nat),i=.int .i64 k∧k<=u.length∧Hid ((∀ x y,x<q->y<6->F x y=aGo a x y)∧(∀ (j y:Nat),j<k->u[j]?=some y->F q y=aGo a q y)∧∀ y,y<6->(∀ j,j<k->u[j]?≠some y)->F q y=q)∧wr.ownsRow f.heap.size 166 6 (.slice (some f.heap.size) m m) m (tbC m F)∧Ext f wr∧Lst zbs wr w2.heap.size w3.heap.size AL u) (fun _ _ i _=>u.length - (intOf i).toNat)
     case atStart=>exact⟨0,F,rfl,dG _,(show Hid _ from ⟨o.out.1,fun j y h=>oM,fun y h _=>o.out.2 y (oH aj.out)⟩),b,t,c⟩
     case round =>
      clear b t c o;obtain⟨k,F,rfl,hk,o,b,t,c⟩:=hrel
      by_cases hkl:k<u.length
      ·obtain⟨bl,ol,l,rfl,_,_,hl,aU⟩:=c.num hkl;have R:l<6:=by
        have:=dC hl.out;rw [← z.out] at this;exact (zG.1 this).1
       have aG:=za (ziD (a:=al) (n:=6) (k:=k) (l:=l) (by rw [z.out];exact hl.out));have af:=za (show al.testBit l=true from by
        have:=dC hl.out;rw [← z.out] at this;exact (zG.1 this).2)
       obtain⟨aA,x,rfl,_,_,aq,ai⟩:=(az.out wr t).int (show k<row.length by have:=ab.out;omega);obtain⟨x0,x1⟩:=ay.out x (dC aq.out);obtain⟨v,rfl⟩:∃ v:Nat,x=v:=⟨x.toNat,oM⟩;have hv:=za (show aGo a q l=v by
        unfold aGo;rw [M.out,af.out,if_pos rfl,aG.out];simp only [dF,J.out,Option.getD_some,aq.out];rfl)
       obtain⟨o0,g0⟩:=zaM b (q*6+l) oM;have f0:=b.frozenAt (q*6+l);have U:=dB wr;have CX:∀ W,Ext wr W->W.cell? (aA.add k)=some (.int .i64 (v:Nat)):=fun W hW=>hW.aa ai;have aW:(k:Int)<(row.length:Int):=oH ab.out;have aY:(q:Int)<(m:Int):=oM;have aL:(l:Int)<6:=oM;clear ai;go_upto_region 14 with fail
       refine uR (fun X=>Ext wr X) [9] (zw.of [0,1,2,3,4,5,6,7,8,9]) ?_;refine uQ ?_;have g1:wr.drew.cell? ⟨f.heap.size,q*6+l,none⟩=some o0:=g0;have f1:wr.drew.frozen? ⟨f.heap.size,q*6+l,none⟩=false:=f0;have au:wr.drew.ownsRow f.heap.size 166 6 (.slice (some f.heap.size) m m) m (tbC m F):=zh b U.drew;have ao:=t.drew;have I:=c.ext zbs.ok U.drew;clear CX g0 f0 b t c U;generalize wr.drew=wd at *;have s:=au.stored (q*6+l) (.int .i64 (v:Nat));have V:Ext f (wd.setCell ⟨f.heap.size,q*6+l,none⟩ (.int .i64 (v:Nat))):=ao.setCell (p:=⟨f.heap.size,q*6+l,none⟩) (dE _) _;have D:Lst zbs (wd.setCell ⟨f.heap.size,q*6+l,none⟩ (.int .i64 (v:Nat))) w2.heap.size w3.heap.size (some ⟨bl,ol,none⟩) u:=I.frm zbs.ok (dH wd f.heap.size (q*6+l) _) (fun k H h2 e=>oM);obtain⟨Y,aF,C⟩:∃ Y:Nat->Nat->Nat,(tbC m F).set (q*6+l) (.int .i64 (v:Nat))=tbC m Y∧Hid ((∀ x y,x<q->y<6->Y x y=aGo a x y)∧(∀ (j y:Nat),j<k+1->u[j]?=some y->Y q y=aGo a q y)∧∀ y,y<6->(∀ j,j<k+1->u[j]?≠some y)->Y q y=q):=by
        refine⟨fun x y=>if x=q∧y=l then v else F x y,tbC_set hlt R (fun _ _ _ _=>rfl),⟨fun x y H h2=>?_,fun j y Z hy=>?_,fun y h6 hy=>?_⟩⟩
        ·show (if x=q∧y=l then v else F x y)=_;rw [if_neg oM];exact o.out.1 x y H h2
        ·show (if q=q∧y=l then v else F q y)=_
         by_cases e:y=l
         ·rw [if_pos ⟨rfl,e⟩,e,hv.out]
         ·rw [if_neg (fun h=>e h.2)]
          by_cases e2:j=k
          ·subst e2;have:=hl.out;rw [hy] at this;exact absurd (Option.some.inj this) e
          ·exact o.out.2.1 j y oM hy
        ·show (if q=q∧y=l then v else F q y)=_;rw [if_neg (fun h=>hy k oM (by rw [h.2];exact hl.out))];exact o.out.2.2 y h6 (fun j Z=>hy j oM)
       rw [aF] at s;have r:=s.1;refine zb fun K hK=>?_;go_simp;refine hK.out _ _ ?_;refine ze ?_;clear s au I ao;go_wp2_with fail
       go_roundw
       case rel=>exact⟨k+1,Y,gM,oM,C,r,V,D⟩
       case measure=>simp [intOf];omega
      ·obtain rfl:k=u.length:=oM;have C:=za (show ∀ x y,x<q+1->y<6->F x y=aGo a x y from fun x y H h2=>by
        by_cases e:x=q
        ·subst e
         by_cases hb:y∈u
         ·obtain⟨j,Z⟩:=List.getElem?_of_mem hb;exact o.out.2.1 j y (List.getElem?_eq_some_iff.1 Z).1 Z
         ·rw [o.out.2.2 y h2 (fun j _ Z=>hb (dC Z))];unfold aGo;rw [M.out,if_neg];intro hbt;exact hb (by rw [← z.out];exact zG.2 ⟨h2,hbt⟩)
        ·exact o.out.1 x y oM h2)
       go_wp2_with fail
       go_roundw
       case rel=>exact⟨q+1,F,gM,oM,C,b,t,c⟩
       case measure=>simp [intOf];omega
  ·obtain rfl:m=q:=oM;have an:=za (show RetTb2 w a (.returned (.slice (some f.heap.size) m m)) wr from by
    refine⟨_,m,by rw [Hn.out],⟨f.heap.size,T.size,?_⟩,T.trans t⟩;have H:=b;rw [Hn.out,tbC_congr (g:=aGo a) (fun x y t hy=>o.out x y (oH Hn.out) hy)] at H;rw [Hn.out];exact H)
   clear b;go_wp2;go_ret;exact an.out
theorem ziC (h:zH w lo hi B m B' m' a)(hv:zi a=true) :
  Calls Tryz.prog 119 #[.agg #[a.al,.slice B m d,.slice B' m' d']] w (RetTb2 w a):=zfm h (fit_of hv) oM
theorem zcm (h:zH w lo hi B m B' m' a)(hv:zi a=true) :
  Calls Tryz.prog 119 #[.agg #[a.al,.slice B m d,.slice B' m' d']] w (RetTb w a):=by
 refine (ziC h hv).mono ?_;rintro e j ⟨A,c,f,⟨b,-,g⟩,i⟩;exact⟨A,c,f,⟨b,g⟩,i⟩
theorem nats_oneC (l:List Nat):∀ u∈zae l,u.oneCell'=true:=by
 intro u hu;obtain⟨x,_,rfl⟩:=List.mem_map.1 hu;rfl
def RetNx (w:World) (base:Nat) (v:Value) (xs:List Value) (R:List Nat) (e:Ending) (w':World):Prop:=
 ∃ v',e=.returned v'∧w'.ownsRow base 3 1 v' (xs.length+R.length) (xs++zae R)∧Frm (fun b=>v.ownBlock=some b) w w'∧(v'.ownBlock=v.ownBlock∨∃ b,v'.ownBlock=some b∧w.heap.size<=b)
theorem flat_snoc {l:List Nat} {a:Nat} (f:Nat->List Nat)(h:l[a]?=some q):(l.take (a+1)).flatMap f=(l.take a).flatMap f++f q:=by
 rw [dO,h];simp
theorem drop_cons {s:Sys}(h:ss[j]?=some s):ss.drop j=s :: ss.drop (j+1):=by
 obtain⟨a,rfl⟩:=List.getElem?_eq_some_iff.1 h;exact fN a
theorem impl_next {v:Value} {xs:List Value} (h:PtAt w lo hi A k lo' hi' M ss)(hs:∀ s∈ss,Sml s)(hk4:k<=4)(hm:m<=4611686018427387904)(hl:l<6)(hT:Tab w)
  (zje:w.ownsRow base 3 1 v n xs) (hb:base<=w.heap.size) (hn:n<=1099511627776) :
  Calls Tryz.prog 68 #[.agg #[.slice A k c,.slice M k d],m,l,v] w (RetNx w base v xs (nx ss m l).1):=by
 have HP:=za (fun W (hW:Ext w W)=>h.ext hW);have HT:=za (fun W (hW:Ext w W)=>hT.ext hW);have HO:=za (fun W (hW:Ext w W)=>zh zje hW);have Hs:=za hs;have bg:=za h.sys.1;have be:=za (fun j=>nx_facts (ss:=ss.drop j) (fun s hx=>hs s (List.mem_of_mem_drop hx)) m l);have aN:=za (fun j=>nx_len (ss:=ss.drop j) (fun s hx=>hs s (List.mem_of_mem_drop hx)) m l);have aC:=za (show ∀ j,16 ^ (ss.drop j).length<=65536 from fun j=>by
  have:(ss.drop j).length<=4:=by rw [List.length_drop,← h.sys.1];omega
  exact dL (dV oM this) dM)
 have cj:=zje.1;clear h hs hT zje
 go_enter Tryz.func68,Tryz.ntmps68
 have bp:Blk (w.alloc (.cells #[.slice A k c,.slice M k d] 108)) w.heap.size 108 #[.slice A k c,.slice M k d]:=Blk.new w _ _;have aU:=(dB w).alloc (.cells #[.slice A k c,.slice M k d] 108);have Y:=World.ownsRow_lit (base:=w.heap.size) (e:=3) (size:=1) (w.alloc (.cells #[.slice A k c,.slice M k d] 108)) #[(0:Int)] 1 aU.size dM rfl;rw [show (w.alloc (.cells #[.slice A k c,.slice M k d] 108)).heap.size=w.heap.size+1 by simp] at Y;have aA:=bp.ext ((dB _).alloc (.cells #[(0:Int)] 3));have cp:=aA.cell;go_upto_region 2 with fail
 generalize U0:(w.alloc _).alloc _=w2 at *;have E:=aU.trans (Ext.al_ U0);clear U0;go_wp2_with fail
 go_loopw [1,9,10,11] (fun f rv wt i wr=>∃ (j nd' W:Nat) (R:List Nat),j<=k∧i=.int .i64 ((j:Int) - 1)∧f=.int .i64 (nd':Nat)∧wt=.int .i64 (W:Nat)∧Hid (nx (ss.drop j) m l=(R,W,nd'))∧wr.ownsRow w.heap.size 3 1 rv R.length (zae R)∧Ext w2 wr) (fun _ _ _ i _=>(intOf i+1).toNat)
 case atStart=>exact⟨k,m,1,[0],dE _,gM,rfl,rfl,za (by rw [List.drop_of_length_le (by rw [← bg.out];exact dE _)];rfl),Y,dB _⟩
 case round =>
  clear Y cp;obtain⟨j,f,W,R,hj,rfl,rfl,rfl,aw,hR,I⟩:=hrel;have ad:=aA.ext I;have cp:=ad.cell
  by_cases hlt:1<=j
  ·obtain⟨i,rfl⟩:∃ i,j=i+1:=⟨j - 1,oM⟩;obtain⟨g,o,s,B,q,c',rfl,_,_,hs,c0,c1,c2,-⟩:=(HP.out wr (E.trans I)).sys.sys (k:=i) oM;have t:=za (Hs.out s (dC hs.out));obtain⟨p,hp⟩:∃ p:Nat,Hid (s.st=p):=⟨s.st.toNat,za (oH t.out.1)⟩;have ce:1<=p∧p<=16:=by have:=t.out.1;have:=t.out.2.1;have:=hp.out;omega
   obtain⟨al,ab⟩:∃ al:Nat,Hid (s.al=al):=⟨s.al.toNat,za (oH t.out.2.2.2)⟩;have bq:Sm al:=by have:=t.out.2.2.2;have:=ab.out;unfold Sm;omega
   rw [ab.out] at c0;rw [hp.out] at c1;have bf:(((i+1:Nat):Int) - 1)=(i:Int):=oM;rw [bf];have hF:=be.out (i+1);have aF:=aN.out (i+1);have aE:=aC.out (i+1);rw [aw.out] at hF aF;obtain⟨ba,bb,aI,a8,bk⟩:=hF;have a3:=za aI;clear aI a8;dsimp only at ba bb bk aF;obtain⟨T,H⟩:∃ T,Hid (cho s (f % p) l=T):=⟨_,za rfl⟩;have b9:T.length<=16:=by
    have:=cho_len t.out (i:=f % p) (l:=l) (by have:=hp.out;have:=gF f (show 0<p by omega);omega);rw [H.out] at this;have:=hp.out;omega
   have aK:=za (show ∀ q∈T,q<16 from fun q hq=>by
    have:=cho_lt t.out (i:=f % p) (l:=l) (by have:=hp.out;have:=gF f (show 0<p by omega);omega) q (by rw [H.out];exact hq);have:=hp.out;omega)
   have bO:((f:Int)).tmod (p:Int)=((f % p:Nat):Int):=rfl;have bN:((f:Int)).tdiv (p:Int)=((f / p:Nat):Int):=rfl;have cc:(i:Int)<(k:Int):=oM;have U:=(dB wr).alloc (.cells #[al,p,.slice B q c'] 38);have bP:(f:Int)<=4611686018427387904:=oM;have cg:((p:Int)==0)=false:=by simp;omega
   go_upto_region 6 with fail
   clear c0 c1 c2 cp;have cp:=(ad.ext U).cell;have aj:=ad.ext U;have aG:=zh hR U;have S:=I.trans U;generalize U0:wr.alloc _=w3 at *;have bs:=Ext.bl_ U0;clear U0;generalize wr.heap.size=G3 at *;have c3:=bs.cell;go_upto_region 7 with fail
   obtain⟨z,ag⟩:∃ z:Nat,Hid (f % p=z):=⟨_,za rfl⟩;have hz:((f:Int) % (p:Int))=(z:Int):=by rw [← ag.out];exact (gC f p).symm
   have bA:z<16:=by have:=gF f (show 0<p by omega);have:=ag.out;omega
   rw [hz];rw [ag.out] at H;have af:=(dB w3).alloc (.cells #[(z:Int)] 3);have h4:=World.ownsRow_lit (base:=w.heap.size) (e:=3) (size:=1) w3 #[(z:Int)] 1 (dL (dL E.size S.size) (dE _)) dM rfl;have J:=aj.ext af;have V:=bs.ext af;have aH:=zh aG af;have F:=S.trans af;clear c3 cp bs aj aG S hR I ad U;generalize w3.alloc _=w4 at *;generalize w3.heap.size=G4 at *;have c4:=V.cell;have a7:hasB al (l:Nat)=al.testBit l:=by simp [hasB]
   go_upto_if 41 with (go_at_call 127;refine (zbz al l bq _).mono ?_;rw [a7];rintro e w4 ⟨rfl,rfl⟩)
   go_cut [13] (fun tv wx=>∃ (A':Option Addr) (c2:Nat),tv=.slice A' T.length c2∧Reads wx 0 wx.heap.size 1 A' T.length (zae T)∧Ext w4 wx)
   case first =>
    cases hbt:al.testBit l
    ·have aa:T=[z]:=by
      rw [← H.out,cho,ab.out,eN,hbt];rfl
     subst aa;go_wp2_with fail
     go_meet;exact⟨_,_,rfl,(eE h4).more (dG _) (dE _),dB _⟩
    ·have aa:T=letters (succ s.edges (z:Nat) (l:Nat)) 32:=by
      rw [← H.out,cho,ab.out,eN,hbt];rfl
     go_upto_region 8 with fail
     clear c4;obtain⟨bB,bi,bj⟩:=(HP.out _ (E.trans F)).mov;obtain⟨a4,u,rfl,_,_,hu,aL⟩:=bi.one (k:=i) oM;obtain⟨b,bc,rfl⟩:∃ b,bB[i]?=some b∧u=.pointer (some ⟨b,0,none⟩):=by
      have:=hu.out;simp only [ptrs,dS,fQ] at this;obtain⟨b,Y,h2⟩:=this;exact⟨b,Y,h2.symm⟩
     have aO:=(bj.2 i b s bc hs.out).at_;have bD:Few 16 s.edges:=fun e he=>by
      have:=t.out.2.2.1 e he;have:=hp.out;omega
     have s1:=succ_sm bD (dE _) (z:Nat) (l:Nat);have cP:=J.cells;have cS:=fun W (hW:Ext w4 W)=>(V.ext hW).cell;have cM:∀ W,Ext w4 W->W.cell? (a4.add i)=some (.pointer (some b)):=fun W hW=>hW.aa aL;have cV:∀ W,Ext w4 W->W.cell? ⟨b,z*6+l,none⟩=some (.int .i64 (succ s.edges (z:Nat) (l:Nat):Nat)):=fun W hW=>hW.aa (aO z l bA hl);have bW:(z:Int)<16:=oM;have cd:(l:Int)<6:=oM;have bl:¬ (p=0):=oM;have a9:=za aa;generalize succ s.edges (z:Nat) (l:Nat)=sc at *;have D:=dB w4;clear aL aO aa;refine uR (fun X=>Ext w4 X) [14] (zw.of [0,1,2,3,4,5,6,7,8,9,10,11,12,13,14,15]) ?_;refine uQ ?_;refine zd fun K hK=>?_;go_simp;refine hK.out _ _ D.drew ?_;refine pT ?_;refine uQ ?_;refine zd fun K hK=>?_;go_simp;refine (impl_members sc s1 _ (HT.out _ (E.trans (F.trans D.drew)))).mono ?_;rintro e w5 ⟨A5,c5,rfl,ah,bw⟩;have ap:=D.drew.trans bw;rw [← a9.out] at ah ⊢;refine hK.out _ _ ap ?_;refine pT ?_;refine uQ ?_;refine ze ?_;go_wp2_with fail
     go_meet;exact⟨_,_,rfl,(eE ah).more (dG _) (dE _),ap⟩
   case rest =>
    obtain⟨A',c2,rfl,aJ,C⟩:=hcut;have Z:=zh aH C;have a6:=V.ext C;have aq:=F.trans C;have bM:=J.ext C;clear h4 aH V F J C c4;have ca:=aJ.len;have bY:=za Z;obtain⟨AR,cR,rfl⟩:=zg Z;have au:=eE Z;have ar:R.length<=65536:=oM;clear Z;go_wp2_with fail
    go_loopw [14,59] (fun mv ia wx=>∃ a:Nat,a<=T.length∧ia=.int .i64 (a:Nat)∧wx.ownsRow wc.heap.size 3 1 mv ((T.take a).flatMap fun q=>R.map fun x=>q*W+x).length (zae ((T.take a).flatMap fun q=>R.map fun x=>q*W+x))∧Ext wc wx) (fun _ ia _=>T.length - (intOf ia).toNat)
    case atStart=>exact⟨0,dG _,rfl,World.ownsRow_nil _ _ _ _,dB _⟩
    case round =>
     obtain⟨a,ha,rfl,av,ae⟩:=hrel
     by_cases hat:a<T.length
     ·obtain⟨b2,qv,rfl,_,_,bn,bm⟩:=(aJ.ext ae).one (k:=a) hat;obtain⟨G,aR,rfl⟩:∃ G,Hid (T[a]?=some G)∧qv=.int .i64 (G:Nat):=by
       have:=bn.out;simp only [zae,dS,fQ] at this;obtain⟨x,Y,h2⟩:=this;exact⟨x,za Y,h2.symm⟩
      have bS:=aK.out G (dC aR.out);have br:=za (flat_snoc (fun q=>R.map fun x=>q*W+x) aR.out);have cf:((T.take a).flatMap fun q=>R.map fun x=>q*W+x).length<=16*65536:=by
       have:∀ L:List Nat,(L.flatMap fun q=>R.map fun x=>q*W+x).length=L.length*R.length:=by
        intro L
        induction L with
        |nil=>simp
        |cons x r ih=>rw [List.flatMap_cons,dN,ih,dQ,List.length_cons,Nat.add_mul,Nat.one_mul,Nat.add_comm]
       rw [this,eT];exact eR oM ar
      generalize (T.take a).flatMap (fun q=>R.map fun x=>q*W+x)=P at *;go_upto_region 13 with fail
      clear bm;go_wp2_with fail
      go_loopw [14,65] (fun mv ib wy=>∃ b:Nat,b<=R.length∧ib=.int .i64 (b:Nat)∧wy.ownsRow wc.heap.size 3 1 mv (P++(R.take b).map fun x=>G*W+x).length (zae (P++(R.take b).map fun x=>G*W+x))∧Ext wc wy) (fun _ ib _=>R.length - (intOf ib).toNat)
      case atStart=>exact⟨0,dG _,rfl,by simpa using av,ae⟩
      case round =>
       obtain⟨b,cb,rfl,O,ay⟩:=hrel
       by_cases hbt:b<R.length
       ·obtain⟨b1,rv,rfl,_,_,bo,ch⟩:=(au.ext ay).one (k:=b) hbt;obtain⟨r1,aS,rfl⟩:∃ r1,Hid (R[b]?=some r1)∧rv=.int .i64 (r1:Nat):=by
         have:=bo.out;simp only [zae,dS,fQ] at this;obtain⟨x,Y,h2⟩:=this;exact⟨x,za Y,h2.symm⟩
        have bU:=a3.out r1 (dC aS.out);have aQ:G*W<=16*65536:=eR oM oM;have b8:(P++(R.take b).map fun x=>G*W+x).length<=17*65536:=by
         rw [dN,dQ,eT];omega
        obtain⟨qw,ax⟩:∃ qw:Nat,Hid (G*W=qw):=⟨_,za rfl⟩;have bT:(G:Int)*(W:Int)=(qw:Int):=by rw [← ax.out];exact (fJ G W).symm
        have aT:=za (show (P++(R.take (b+1)).map fun x=>G*W+x)=(P++(R.take b).map fun x=>G*W+x)++[qw+r1] by
         rw [dO,aS.out,← ax.out]
         simp)
        rw [ax.out] at aQ;generalize P++(R.take b).map (fun x=>G*W+x)=P3 at *;go_wp2_with (at_builtin;refine zU wc wr rfl _ _ _ rfl 3 _ 1 8 Tryz.underlying110 zS rfl dM u14 _ _ _ _ rfl rfl ay O rfl (zaL _) lM oM ?_;intro v' w1 hext1 zjn hg1 hat1)
        go_roundw
        case rel=>exact⟨b+1,oM,gM,by rw [aT.out,dN];simpa [zae] using zjn,hext1⟩
        case measure=>simp [intOf];omega
       ·obtain rfl:b=R.length:=oM;rw [eI] at O;go_wp2_with fail
        go_roundw
        case rel=>exact⟨a+1,oM,gM,by rw [br.out];exact O,ay⟩
        case measure=>simp [intOf];omega
     ·obtain rfl:a=T.length:=oM;rw [eI] at av;have c5:=(a6.ext ae).cell;have bd:((f:Int) / (p:Int))=((f / p:Nat):Int):=(iB f p).symm;have bu:W*p<=65536*16:=eR oM oM;obtain⟨wp,Q⟩:∃ wp:Nat,Hid (W*p=wp):=⟨_,za rfl⟩;have bV:(W:Int)*(p:Int)=(wp:Int):=by rw [← Q.out];exact (fJ W p).symm
      rw [Q.out] at bu;have an:=za (show nx (ss.drop i) m l=(T.flatMap (fun q=>R.map fun x=>q*W+x),wp,f / p) by
       rw [drop_cons hs.out,nx,aw.out,← Q.out,← H.out];have e:s.st.toNat=p:=oH hp.out;rw [e,ag.out])
      have bl:¬ (p=0):=oM;have bz:=aq.trans ae;have bt:w.heap.size<=wc.heap.size:=dL E.size aq.size;have aP:=zn av bt;obtain⟨aV,ak⟩:∃ y:Nat,Hid (f / p=y):=⟨_,za rfl⟩;rw [ak.out] at bd an;have bR:aV<=f:=by rw [← ak.out];exact hY _ _
      go_wp2_with fail
      go_roundw
      case rel=>exact⟨i,aV,wp,_,oM,gM,gM,gM,an,aP,bz⟩
      case measure=>simp [intOf]
  ·obtain rfl:j=0:=oM;have am:=za (show (nx ss m l).1=R by
    have:=aw.out;rw [List.drop_zero] at this;rw [this])
   have bh:=aN.out 0;have aE:=aC.out 0;rw [List.drop_zero,am.out] at bh;rw [List.drop_zero] at aE;have hO:=HO.out wr (E.trans I);have D:=E.trans I;have bx:xs.length=n:=oM;obtain⟨AR,cR,rfl⟩:=zg hR;have au:=eE hR;have bQ:¬ (0<=(((0:Nat):Int) - 1)):=oM;go_wp2_with (at_builtin;refine zeW wr rfl _ _ 110 rfl base 3 _ 1 8 Tryz.underlying110 zS rfl dM v n xs rfl hO _ _ AR R.length cR (zae R) rfl au (nats_oneC R) lM oM (dL hb D.size) ?_;intro v' w5 ah hg5 hat5)
   go_ret;refine⟨v',rfl,by rw [bx,am.out];exact ah,D.aj.trans ((Frm.ab hg5).mono fun b _ h=>h),?_⟩;rcases hat5 with h|h
   ·exact .inl h
   ·exact .inr ⟨_,h,D.size⟩
structure BCaps (w:World) (g8 g10 g11 g12 g13:Nat) (A M UA RA:Option Addr) (k c dm uc rc:Nat) (ss:List Sys) (a p:Aut):Prop where
 h8:Blk w g8 108 #[.slice A k c,.slice M k dm]
 h10:Blk w g10 148 #[.slice UA a.next.length uc]
 h11:Blk w g11 148 #[.slice RA p.next.length rc]
 h12:Blk w g12 3 #[.int .i64 (a.next.length:Nat)]
 h13:Blk w g13 3 #[.int .i64 (p.next.length:Nat)]
 pt:∃ lo hi lo' hi',PtAt w lo hi A k lo' hi' M ss
 tu:∃ lo hi,TbAt w lo hi UA a
 tr:∃ lo hi,TbAt w lo hi RA p
theorem BCaps.ext (h:BCaps w g8 g10 g11 g12 g13 A M UA RA k c dm uc rc ss a p)(hx:Ext w w'):BCaps w' g8 g10 g11 g12 g13 A M UA RA k c dm uc rc ss a p:=by
 obtain⟨q,o,g,b,l⟩:=h.pt;obtain⟨i,d,m⟩:=h.tu;obtain⟨j,f,n⟩:=h.tr;exact⟨h.h8.ext hx,h.h10.ext hx,h.h11.ext hx,h.h12.ext hx,h.h13.ext hx,⟨q,o,g,b,l.ext hx⟩,⟨i,d,m.ext hx⟩,⟨j,f,n.ext hx⟩⟩
theorem zdr (h:∀ s∈ss,Sml s):1<=zJ (ss.map zdA):=zfr fun m hm=>by
 obtain⟨s,hs,rfl⟩:=List.mem_map.1 hm
 exact zeO (h s hs)
theorem zcK (h:∀ s∈ss,Sml s):zJ (ss.map zdA)<=16 ^ ss.length:=by
 have a:∀ x∈(ss.map zdA).map Prod.fst,x<=16:=fun x hx=>by
  rw [iK] at hx;obtain⟨s,b,rfl⟩:=List.mem_map.1 hx;have a:=(h s b).1;have c:=(h s b).2.1;simp only [Function.comp,zdA];omega
 have:=prodS_le a;simpa [zJ] using this
theorem zib (h:PtAt w lo hi A k lo' hi' M ss)(hs:∀ s∈ss,Sml s)(hk:k<=3) :
  Calls Tryz.prog 176 #[.agg #[.slice A k c,.slice M k dm]] w fun e w'=>e=.returned (.int .i64 (zJ (ss.map zdA):Nat))∧Ext w w':=by
 have E:=za (fun W (hW:Ext w W)=>h.sys.ext hW);have I:=za h.sys.1;have G:=za hs;have F:=za (show ∀ j,1<=zJ ((ss.take j).map zdA)∧zJ ((ss.take j).map zdA)<=4096 from fun j=>by
  have x:∀ s∈ss.take j,Sml s:=fun s hs'=>hs s (List.mem_of_mem_take hs');refine⟨zdr x,dL (zcK x) ?_⟩;have H:(ss.take j).length<=3:=by rw [eT];have:=h.sys.1;omega
  calc 16 ^ (ss.take j).length<=16 ^ 3:=dV oM H
   _=4096:=by decide)
 clear hs h
 go_enter Tryz.func176,Tryz.ntmps176
 go_upto_region 1 with fail
 generalize U0:w.alloc _=S at *;obtain⟨r,n⟩:=Ext.x1_ U0;clear U0;have u:=n.cell;go_wp2_with fail
 go_loopw [3,5,9] (fun v _ i wr=>∃ j y:Nat,i=.int .i64 j∧j<=k∧v=.int .i64 y∧y<=4096∧Hid (y=zJ ((ss.take j).map zdA))∧Ext w wr) (fun _ _ i _=>k - (intOf i).toNat)
 case atStart=>exact⟨0,1,rfl,dG _,rfl,oM,rfl,r⟩
 case round =>
  obtain⟨j,y,rfl,Q,rfl,R,l,m⟩:=hrel
  by_cases hlt:j<k
  ·obtain⟨b,o,s,B,q,d,rfl,_,_,hs,L,u,O,_⟩:=(E.out wr m).sys hlt;have g:=G.out s (dC hs.out);obtain⟨p,C⟩:∃ p:Nat,Hid (s.st=p):=⟨s.st.toNat,by have:=g.1;unfold Hid;omega⟩;have f:=za (show zJ ((ss.take (j+1)).map zdA)=y*p by
    rw [dO,hs.out,eD,eK,zbI,← l.out];simp [zJ,zax,zdA,C.out])
   have a:=(F.out (j+1)).2;rw [f.out] at a;obtain⟨z,D⟩:∃ z:Nat,Hid (y*p=z):=⟨_,rfl⟩;have J:(y:Int)*(p:Int)=(z:Int):=by rw [← D.out];exact (fJ y p).symm
   rw [D.out] at a f;rw [C.out] at u;clear g;go_wp2_with fail
   go_roundw
   case rel=>exact⟨j+1,z,gM,oM,gM,a,f.symm,by first|exact m.alloc _|exact (m.alloc _).drew⟩
   case measure=>simp [intOf];omega
  ·obtain rfl:k=j:=oM;have t:=za (show y=zJ (ss.map zdA) by rw [l.out,List.take_of_length_le (oH I.out)]);go_wp2;go_ret;exact⟨zD (by rw [t.out]),m⟩
structure GCaps (w:World) (g4 ga g5 g12 g13:Nat) (a p:Aut):Prop where
 h4:Blk w g4 173 #[.pointer (some ga)]
 ha:∃ (B:Option Addr) (m d:Nat) (B':Option Addr) (m' d' lo hi:Nat),Blk w ga 27 #[a.al,.slice B m d,.slice B' m' d']∧zH w lo hi B m B' m' a
 h5:∃ (B:Option Addr) (m d:Nat) (B':Option Addr) (m' d' lo hi:Nat),Blk w g5 27 #[p.al,.slice B m d,.slice B' m' d']∧zH w lo hi B m B' m' p
 h12:Blk w g12 3 #[.int .i64 (a.next.length:Nat)]
 h13:Blk w g13 3 #[.int .i64 (p.next.length:Nat)]
theorem GCaps.ext (h:GCaps w g4 ga g5 g12 g13 a p)(hx:Ext w w'):GCaps w' g4 ga g5 g12 g13 a p:=by
 obtain⟨B,m,d,g,u,k,t,s,l,o⟩:=h.ha;obtain⟨C,n,c,i,v,j,f,b,q,r⟩:=h.h5;exact⟨h.h4.ext hx,⟨B,m,d,g,u,k,t,s,l.ext hx,o.ext hx⟩,⟨C,n,c,i,v,j,f,b,q.ext hx,r.ext hx⟩,h.h12.ext hx,h.h13.ext hx⟩
theorem zcT (h:zH w lo hi B m B' m' a)(hq:q<m'):∃ ad,B'=some ad∧w.cell? (ad.add q)=some (.bool (zaC a q)):=by
 obtain⟨ad,x,rfl,_,_,c,b⟩:=h.2.2.bool hq;exact⟨ad,rfl,by rw [b];unfold zaC;rw [dF,c.out];rfl⟩
theorem brk_goal (h:GCaps w g4 ga g5 g12 g13 a p)(hv:zi a=true)(hp:zi p=true)(hx:x<=4611686018427387904) :
  Calls Tryz.prog 174 #[.int .i64 (x:Nat),.pointer (some g4),.pointer (some g13),.pointer (some g12),.pointer (some g5)] w fun e w'=>e=.returned (.bool (zaC a (x / p.next.length % a.next.length)&&!zaC p (x % p.next.length)))∧Ext w w':=by
 obtain⟨_,⟨s,J⟩,L,_⟩:=zl hv;obtain⟨_,⟨E,p2⟩,p3,_⟩:=zl hp;obtain⟨B,m,d,B',z,d',lo,hi,v,i⟩:=h.ha;obtain⟨C,n,c,C',D,c',af,V,u,l⟩:=h.h5;have o:=i.n2;have r:=l.n2;have t:=h.h4;have f:=h.h12;have g:=h.h13;clear h hv hp;generalize hNa:a.next.length=N at *;generalize hNp:p.next.length=b at *;have k:x / b % N<N:=gF _ s;have j:x % b<b:=gF _ E;obtain⟨ad,rfl,S⟩:=zcT i (q:=x / b % N) oM;obtain⟨M,rfl,T⟩:=zcT l (q:=x % b) oM;have U:(x:Int) / (b:Int)=((x / b:Nat):Int):=(iB x b).symm;have X:((x / b:Nat):Int) % (N:Int)=((x / b % N:Nat):Int):=(gC _ N).symm;have y:(x:Int) % (b:Int)=((x % b:Nat):Int):=(gC x b).symm;have ae:x / b<=4611686018427387904:=dL (hY _ _) hx;have R:¬ (N=0):=oM;have Q:¬ (b=0):=oM;have aa:x / b % N<z:=oM;have ab:x % b<D:=oM;have K4:=t.cell 0;have Ka:=v.cell;have K5:=u.cell;have H:=f.cell 0;have I:=g.cell 0;clear t f g v u i l o r L p3 hNa hNp k j s J E p2;generalize x / b % N=F at *;generalize x % b=G at *;generalize x / b=xd at *;have Y:(F:Int)<(z:Int):=oM;have Z:(G:Int)<(D:Int):=oM;generalize zaC a F=O at *;generalize zaC p G=b2 at *;cases O
 all_goals
  go_enter Tryz.func174,Tryz.ntmps174
  go_wp2_with fail
  go_quiet (fail)
  go_wp2_with fail
  go_ret;exact⟨zj sM,(dB _).drewN _⟩
def zbX (ss:List Sys) (a p:Aut) (x l:Nat):List Nat:=(nx ss (x / p.next.length / a.next.length) l).1.map fun y=>y*a.next.length*p.next.length+(aGo a (x / p.next.length % a.next.length) l*p.next.length+aGo p (x % p.next.length) l)
theorem zdm (ss:List Sys) (a p:Aut):zbX ss a p=pnx (zbf ss [a,p]):=by
 funext x l
 rw [zbX,zbf,eY,eY,List.map_nil,pnx_under]
theorem mix_set {f:Nat->Nat} (hr:R[j]?=some r):(zae (xs++(R.take j).map f++R.drop j)).set (xs.length+j) (.int .i64 (f r:Nat))=zae (xs++(R.take (j+1)).map f++R.drop (j+1)):=by
 have b:=(List.getElem?_eq_some_iff.1 hr).1;have a:R.drop j=r :: R.drop (j+1):=by
  have:=(List.getElem?_eq_some_iff.1 hr).2;rw [← this];exact fN b
 unfold zae;rw [← List.map_set]
 congr 1
 rw [dO,hr,eD,eK,a,List.set_append_right _ _ (by simp;omega)];have:xs.length+j - (xs++(R.take j).map f).length=0:=by simp;omega
 rw [this];simp
theorem mix_get {f:Nat->Nat} (hr:R[j]?=some r):(zae (xs++(R.take j).map f++R.drop j))[xs.length+j]?=some (.int .i64 (r:Nat)):=by
 have a:=(List.getElem?_eq_some_iff.1 hr).1;unfold zae;rw [dS,dP (by simp;omega)];have:xs.length+j - (xs++(R.take j).map f).length=0:=by simp;omega
 rw [this,List.getElem?_drop,Nat.add_zero,hr];rfl
def RetBrk (w:World) (base:Nat) (v:Value) (ys:List Nat) (e:Ending) (w':World):Prop:=∃ A' c',e=.returned (.slice A' ys.length c')∧w'.ownsRow base 3 1 (.slice A' ys.length c') ys.length (zae ys)∧Frm (fun b=>v.ownBlock=some b) w w'
theorem brk_next {w0:World} {c0:Nat} {Ao:Option Addr}   (h:BCaps w0 g8 g10 g11 g12 g13 A M UA RA k c dm uc rc ss a p)(hT:Tab w0)(hw:Ext w0 w)(hs:∀ s∈ss,Sml s)(hk:k<=3)(hv:zi a=true)(hp:zi p=true)
  (hx:x<zJ (zbf ss [a,p])) (hl:l<6) (hb0:w0.heap.size<=base) (hb:base<=w.heap.size) (hm:m<=1099511627776) (zje:w.ownsRow base 3 1 (.slice Ao m c0) m (zae xs)) :
  Calls Tryz.prog 173 #[.int .i64 (x:Nat),.int .i64 (l:Nat),.slice Ao m c0,.pointer (some g10),.pointer (some g13),.pointer (some g12),.pointer (some g11),.pointer (some g8)] w (RetBrk w base (.slice Ao m c0) (xs++zbX ss a p x l)):=by
 obtain⟨_,⟨a1,a2⟩,_,_⟩:=zl hv;obtain⟨_,⟨p1,p2⟩,_,_⟩:=zl hp;have aF:=za (fun q (hq:q<a.next.length)=>zfS hv hq hl);have aD:=za (fun q (hq:q<p.next.length)=>zfS hp hq hl);have bX:zJ (zbf ss [a,p])<=4096*144:=by
  have u:zbf ss [a,p]=ss.map zdA++[zbW a,zbW p]:=rfl;rw [u,zbI];have h2:=zcK hs;obtain⟨lo,Y,ad,aa,h3⟩:=h.pt;have h4:16 ^ ss.length<=4096:=by
   calc 16 ^ ss.length<=16 ^ 3:=dV oM (oH h3.sys.1)
    _=4096:=dM
  have h5:zJ [zbW a,zbW p]<=144:=by
   simp only [zJ,zax,zbW,eY,List.map_nil,Nat.mul_one];exact eR a2 p2
  exact eR (dL h2 h4) h5
 have I:=za (fun y hy=>zic (ms:=zbf ss [a,p]) (x:=x) (fun mm hmm=>by
  rcases List.mem_append.1 hmm with u|u
  ·obtain⟨s,br,rfl⟩:=List.mem_map.1 u;exact zeO (hs s br)
  ·obtain⟨b,B,rfl⟩:=List.mem_map.1 u;simp at B;rcases B with rfl|rfl
   ·exact zbN hv
   ·exact zbN hp) hl y hy)
 have J:=za (nx_len hs (x / p.next.length / a.next.length) l);have O:=za (show zbX ss a p x l=(nx ss (x / p.next.length / a.next.length) l).1.map fun y=>y*a.next.length*p.next.length+(aGo a (x / p.next.length % a.next.length) l*p.next.length+aGo p (x % p.next.length) l) from rfl);have bg:=za (show ∀ y∈zbX ss a p x l,y<589824 from fun y hy=>by
  rw [zdm] at hy;have:=I.out y hy;omega)
 have HC:=za (fun W (hW:Ext w0 W)=>h.ext hW);have ag:∃ lo Y ad aa,∀ W,Ext w0 W->PtAt W lo Y A k ad aa M ss:=by
  obtain⟨lo,Y,ad,aa,h3⟩:=h.pt;exact⟨lo,Y,ad,aa,fun W hW=>h3.ext hW⟩
 obtain⟨lo,Y,ad,aa,ag⟩:=ag;have aR:=za ag;have HT:=za (fun W (hW:Ext w0 W)=>hT.ext hW);have Hs:=za hs;clear h hT hs hv hp I ag;obtain⟨N,hN⟩:∃ N,Hid (a.next.length=N):=⟨_,rfl⟩;obtain⟨r,af⟩:∃ r,Hid (p.next.length=r):=⟨_,rfl⟩;rw [hN.out] at a1 a2 aF J O;rw [af.out] at p1 p2 aD J O;have aZ:x / r % N<N:=gF _ a1;have aY:x % r<r:=gF _ p1;have hu:=aF.out _ aZ;have hr:=aD.out _ aY;obtain⟨ug,uo,rfl,V⟩:∃ g o,UA=some ⟨g,o,none⟩∧∀ W,Ext w0 W->W.cell? ⟨g,o+x / r % N*6+l,none⟩=some (.int .i64 (aGo a (x / r % N) l:Nat)):=by
  obtain⟨l1,u,aK⟩:=(HC.out w0 (dB _)).tu;obtain⟨g,o,e,hc⟩:=aK.at_ (q:=x / r % N) (by rw [hN.out];exact aZ) hl;exact⟨g,o,e,fun W hW=>hW.aa hc⟩
 obtain⟨rg,ro,rfl,U⟩:∃ g o,RA=some ⟨g,o,none⟩∧∀ W,Ext w0 W->W.cell? ⟨g,o+x % r*6+l,none⟩=some (.int .i64 (aGo p (x % r) l:Nat)):=by
  obtain⟨l1,u,aK⟩:=(HC.out w0 (dB _)).tr;obtain⟨g,o,e,hc⟩:=aK.at_ (q:=x % r) (by rw [af.out];exact aY) hl;exact⟨g,o,e,fun W hW=>hW.aa hc⟩
 have bY:(x:Int) / (r:Int)=((x / r:Nat):Int):=(iB x r).symm;have a4:((x / r:Nat):Int) / (N:Int)=((x / r / N:Nat):Int):=(iB _ N).symm;have b1:((x / r:Nat):Int) % (N:Int)=((x / r % N:Nat):Int):=(gC _ N).symm;have bF:(x:Int) % (r:Int)=((x % r:Nat):Int):=(gC x r).symm;have bw:x<=589824:=oM;have bu:x / r<=589824:=dL (hY _ _) bw;have b7:x / r / N<=589824:=dL (hY _ _) bu;have bW:¬ (N=0):=oM;have bV:¬ (r=0):=oM;have aH:aGo a (x / r % N) l*r<=12*12:=eR oM oM;obtain⟨rest,E⟩:∃ z:Nat,Hid (aGo a (x / r % N) l*r+aGo p (x % r) l=z):=⟨_,rfl⟩;obtain⟨um,ah⟩:∃ z:Nat,Hid (aGo a (x / r % N) l*r=z):=⟨_,rfl⟩;have bs:((aGo a (x / r % N) l:Nat):Int)*(r:Int)=(um:Int):=by rw [← ah.out];exact (fJ _ r).symm
 rw [ah.out] at aH;have L:rest=um+aGo p (x % r) l:=by rw [← E.out,ah.out]
 have F:=za L;clear L;rw [E.out] at O;generalize aGo a (x / r % N) l=au at *;generalize aGo p (x % r) l=ap at *;generalize x / r % N=q1 at *;generalize x % r=q2 at *;generalize hxE:x / r / N=xe at *;have bh:=za hxE;clear hxE;generalize x / r=xd at *;clear aF aD E ah;have b2:(q1:Int)<(N:Int):=oM;have b3:(q2:Int)<(r:Int):=oM;have b0:(l:Int)<6:=oM;have aS:∀ W,Ext w0 W->∀ i,W.cell? ⟨g10,i,none⟩=#[Value.slice (some ⟨ug,uo,none⟩) N uc][i]?:=fun W hW=>by have:=(HC.out W hW).h10.cell;rw [hN.out] at this;exact this
 have aT:∀ W,Ext w0 W->∀ i,W.cell? ⟨g11,i,none⟩=#[Value.slice (some ⟨rg,ro,none⟩) r rc][i]?:=fun W hW=>by have:=(HC.out W hW).h11.cell;rw [af.out] at this;exact this
 have aU:∀ W,Ext w0 W->∀ i,W.cell? ⟨g12,i,none⟩=#[Value.int .i64 (N:Nat)][i]?:=fun W hW=>by have:=(HC.out W hW).h12.cell;rw [hN.out] at this;exact this
 have aV:∀ W,Ext w0 W->∀ i,W.cell? ⟨g13,i,none⟩=#[Value.int .i64 (r:Nat)][i]?:=fun W hW=>by have:=(HC.out W hW).h13.cell;rw [af.out] at this;exact this
 have K8:∀ W,Ext w0 W->∀ i,W.cell? ⟨g8,i,none⟩=#[Value.slice A k c,Value.slice M k dm][i]?:=fun W hW=>(HC.out W hW).h8.cell;have Hk:=za (And.intro aS (And.intro aT (And.intro aU (And.intro aV K8))));have aQ:=za (And.intro V U);have ay:xs.length=m:=by have:=zeM zje;simp [zae] at this;omega
 have C:=za ay;clear aS aT aU aV K8 V U ay;have a0:=za (show (nx ss xe l).1.length<=4096 from dL J.out (by
  obtain hh:=(aR.out w hw).sys.1
  calc 16 ^ ss.length<=16 ^ 3:=dV oM oM
   _=4096:=by decide))
 have CN:=za (fun W (hW:Ext w W)=>impl_next (c:=c) (d:=dm) (m:=xe) (l:=l) (v:=.slice Ao m c0) (n:=m) (xs:=zae xs) (base:=base) (aR.out W (hw.trans hW)) Hs.out oM oM hl (HT.out W (hw.trans hW)) (zh zje hW) (dL hb hW.size) hm);have b4:rest<=1000:=oH F.out;have bq:(um:Int)+(ap:Int)=(rest:Int):=oH F.out;generalize (nx ss xe l).1=R at *;have a7:=za (fun b (B:(Value.slice Ao m c0).ownBlock=some b)=>(zje.lt b B).1);clear J bh zje;have ao:=fun W (hW:Ext w W)=>Hk.out.1 W (hw.trans hW);have aq:=fun W (hW:Ext w W)=>Hk.out.2.1 W (hw.trans hW);have G:=fun W (hW:Ext w W)=>Hk.out.2.2.1 W (hw.trans hW);have H:=fun W (hW:Ext w W)=>Hk.out.2.2.2.1 W (hw.trans hW);have aG:=fun W (hW:Ext w W)=>Hk.out.2.2.2.2 W (hw.trans hW);have V:=fun W (hW:Ext w W)=>aQ.out.1 W (hw.trans hW);have U:=fun W (hW:Ext w W)=>aQ.out.2 W (hw.trans hW);have t:=dB w
 go_enter Tryz.func173,Tryz.ntmps173
 go_upto_region 1 with fail
 go_cut [12] (fun v wx=>v=.int .i64 (rest:Nat)∧Ext w wx)
 case first =>
  have b8:=ao w t;have b9:=aq w t;have bb:=G w t;have bc:=H w t;have cb:=V w t;have ca:=U w t
  go_quiet (fail)
  go_wp2_with fail
  go_meet;exact⟨gM,t.drewN _⟩
 case rest =>
  obtain⟨rfl,Q⟩:=hcut;clear V U ao aq;replace aG:=fun W (hW:Ext wc W)=>aG W (Q.trans hW);replace G:=fun W (hW:Ext wc W)=>G W (Q.trans hW);replace H:=fun W (hW:Ext wc W)=>H W (Q.trans hW);have ai:=dB wc;go_upto_region 3 with fail
  refine uR (fun X=>Ext wc X) [8] (zw.of [0,1,2,3,4,5,6,7,8,9]) ?_;refine uQ ?_;refine zb fun K hK=>?_;go_simp;have bp:IntKind.i64.wrap ((IntKind.i64.wrap (xd:Int)).tdiv (N:Int))=(xe:Int):=by
   rw [zgp xd oM,Int.tdiv_eq_ediv_of_nonneg oM,a4,zgp xe oM]
  rw [bp];refine (CN.out _ (Q.trans ai.drew)).mono ?_;rintro e w5 ⟨v',rfl,S,an,aw⟩;refine hK.out _ _ ?_;refine pT ?_;refine uQ ?_;refine ze ?_;rw [show zae xs++zae R=zae (xs++(R.take 0).map (fun y=>y*N*r+rest)++R.drop 0) by simp [zae]] at S;have bm:(zae xs).length=m:=by rw [← C.out];simp [zae]
  rw [bm] at S;obtain⟨A5,c5,rfl⟩:=zg S;have D:Frm (fun b=>(Value.slice Ao m c0).ownBlock=some b) w w5:=((Q.trans ai.drew).aj).trans (an.mono fun _ _ h=>h);have aE:Ext w0 w5:=(hw.aj.trans (D.mono fun b hb1 hb2=>hb2)).mono (T:=fun _=>False) (fun b hb1 hb2=>by have:=a7.out b hb2;omega);have ax:∀ b,(Value.slice A5 (m+R.length) c5).ownBlock=some b->(Value.slice Ao m c0).ownBlock=some b∨w.heap.size<=b:=fun b B=>by
   rcases aw with u|⟨b',u,h2⟩
   ·rw [u] at B;exact Or.inl B
   ·rw [u] at B;have:=Option.some.inj B;have:=(Q.trans ai.drew).size;exact Or.inr oM
  have ak:=za ax;clear aw ax aG an G H ai;have Hx:=za (fun (W:World) (hW:Frm (fun b=>(Value.slice Ao m c0).ownBlock=some b) w W)=>show Ext w0 W from (hw.aj.trans (hW.mono fun b _ h=>h)).mono (T:=fun _=>False) (fun b hb1 hb2=>by have:=a7.out b hb2;omega));have bn:m+R.length<=1099511627776+4096:=oH a0.out;obtain⟨Z,hZ⟩:∃ Z,Hid (m+R.length=Z):=⟨_,rfl⟩;rw [hZ.out] at bn S;rw [hZ.out] at ak;rw [hZ.out];go_wp2_with fail
  go_loopw [14] (fun i wr=>∃ i' j:Nat,i=.int .i64 (i':Nat)∧Hid (i'=m+j)∧j<=R.length∧wr.ownsRow base 3 1 (.slice A5 Z c5) Z (zae (xs++(R.take j).map (fun y=>y*N*r+rest)++R.drop j))∧Frm (fun b=>(Value.slice Ao m c0).ownBlock=some b) w wr) (fun i _=>Z - (intOf i).toNat)
  case atStart=>exact⟨m,0,rfl,rfl,dG _,S,D⟩
  case round =>
   clear S D aE;obtain⟨i,j,rfl,Y,hj,zje,D⟩:=hrel
   by_cases hlt:j<R.length
   ·obtain⟨y,hy⟩:∃ y,Hid (R[j]?=some y):=⟨_,za (List.getElem?_eq_getElem hlt)⟩;have av:=bg.out (y*N*r+rest) (by rw [O.out];exact List.mem_map.2 ⟨y,dC hy.out,rfl⟩);have aL:=Hx.out wr D;have bZ:i<Z:=by have:=Y.out;have:=hZ.out;omega
    obtain⟨g5,rfl⟩:∃ g,A5=some ⟨g,0,none⟩:=by
     rcases zje.2 with ⟨u,h2⟩|⟨g,bR,bS,u,_⟩
     ·injection u;omega
     ·injection u with u;exact⟨g,u⟩
    have bo:=za (mix_get (xs:=xs) (f:=fun y=>y*N*r+rest) hy.out);have a3:wr.cell? ⟨g5,i,none⟩=some (.int .i64 (y:Nat)):=by
     have:=zje.cellAt i oM;rw [this,← bo.out,C.out,Y.out]
    have ab:=mix_set (xs:=xs) (f:=fun y=>y*N*r+rest) hy.out;rw [C.out,← Y.out] at ab;have bb:=fun W (hW:Ext wr W)=>Hk.out.2.2.1 W (aL.trans hW);have bc:=fun W (hW:Ext wr W)=>Hk.out.2.2.2.1 W (aL.trans hW);have CY:∀ W,Ext wr W->W.cell? ⟨g5,i,none⟩=some (.int .i64 (y:Nat)):=fun W hW=>hW.aa a3;have a9:y*N<=y*N*r:=jM _ p1;obtain⟨yn,aN⟩:∃ z:Nat,Hid (y*N=z):=⟨_,rfl⟩;have bH:(y:Int)*(N:Int)=(yn:Int):=by rw [← aN.out];exact (fJ y N).symm
    rw [aN.out] at av ab a9;obtain⟨ym,ba⟩:∃ z:Nat,Hid (yn*r=z):=⟨_,rfl⟩;have bG:(yn:Int)*(r:Int)=(ym:Int):=by rw [← ba.out];exact (fJ yn r).symm
    rw [ba.out] at av ab a9;have bx:y<=y*N:=jM _ a1;rw [aN.out] at bx;have a6:(i:Int)<(Z:Int):=oM;have b5:IntKind.i64.wrap (yn:Int)=(yn:Int):=zgp yn oM;have b6:IntKind.i64.wrap (ym:Int)=(ym:Int):=zgp ym oM;have bt:IntKind.i64.wrap ((ym:Int)+(rest:Int))=((ym+rest:Nat):Int):=by rw [← Int.natCast_add];exact zgp (ym+rest) oM
    have t:=dB wr;clear a3 aL;go_upto_region 7 with fail
    refine uR (fun X=>Ext wr X) [13] (zw.of [0,1,2,3,4,5,6,7,8,9,10,11,12,13]) ?_;refine uQ ?_;have aj:=zh zje t.drew;have am:=D.ext t.drew;clear zje D bb bc CY t;generalize wr.drew=wd at *;obtain⟨o0,g0⟩:=zaM aj i oM;have f0:=aj.frozenAt i;have aJ:=aj.stored i (.int .i64 ((ym+rest:Nat):Int));rw [ab] at aJ;have aI:=aJ.1;have a5:Frm (fun b=>(Value.slice Ao m c0).ownBlock=some b) w (wd.setCell ⟨g5,i,none⟩ (.int .i64 ((ym+rest:Nat):Int))):=by
     rcases ak.out g5 rfl with u|u
     ·exact am.cell (p:=⟨g5,i,none⟩) u _
     ·have h2:Frm (fun b=>(Value.slice Ao m c0).ownBlock=some b∨b=g5) w (wd.setCell ⟨g5,i,none⟩ (.int .i64 ((ym+rest:Nat):Int))):=(am.mono fun _ _ h=>Or.inl h).trans ((dH wd g5 i _).mono fun _ _ h=>Or.inr h);exact h2.mono fun b hb h=>h.elim id (fun e=>oM)
    clear aJ ab aj;have bl:=za (show i+1=m+(j+1) by rw [Y.out];omega);refine zb fun K hK=>?_;go_simp;refine hK.out _ _ ?_;refine ze ?_
    first|rw [bt]|skip
    go_wp2_with fail
    go_roundw
    case rel=>exact⟨i+1,j+1,gM,bl,oM,aI,a5⟩
    case measure=>simp [intOf];omega
   ·obtain rfl:j=R.length:=oM;have bC:=za (show wr.ownsRow base 3 1 (.slice A5 (xs++zbX ss a p x l).length c5) (xs++zbX ss a p x l).length (zae (xs++zbX ss a p x l)) by
     rw [O.out,dN,dQ,C.out,hZ.out];rw [eI,List.drop_length,List.append_nil] at zje;exact zje)
    have ar:(xs++zbX ss a p x l).length=Z:=by rw [O.out,dN,dQ,C.out,hZ.out]
    have a8:=za (show RetBrk w base (.slice Ao m c0) (xs++zbX ss a p x l) (.returned (.slice A5 Z c5)) wr from ⟨A5,c5,by rw [ar],bC.out,D⟩);clear ar;have a6:¬ (i:Int)<(Z:Int):=by have:=Y.out;have:=hZ.out;omega
    clear zje;go_wp2;go_ret;exact a8.out
end Go.Proofs.YtckbjnndaaoddaaGreatDoor
