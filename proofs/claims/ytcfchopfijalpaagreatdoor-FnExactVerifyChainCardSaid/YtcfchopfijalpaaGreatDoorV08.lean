/- The referenc -/
import Derived.Test.YtcfchopfijalpaaGreatDoorV07
import Derived.WideKeyArr
set_option maxHeartbeats 4000000
set_option maxRecDepth 100000
namespace Go.Proofs.YtcfchopfijalpaaGreatDoor
open Go Go.RowKit
open Ext renaming drew->fW,refl->dB,trans->e8,x1_->gX
open List renaming append_assoc->jB,drop_eq_getElem_cons->gH,getElem?_eq_getElem->dC,getElem?_of_mem->eT,getElem?_take_of_lt->j3,length_map->eQ,length_take->fH,map_append->fB,map_cons->gJ,mem_of_getElem?->eB,take_add_one->eH,take_append_drop->iN,take_of_length_le->eE
open Nat renaming eq_zero_or_pos->iR,le_refl->eA,zero_le->eD
open Option renaming toList_some->e7
variable {A C R:Option Addr} {T:List Nat} {cc hi k lo n nc:Nat} {cols l rows:List ByteArray} {f:ByteArray->Bool} {w:World} {x y:ByteArray}
structure Tch (w:World) (A:Option Addr) (n:Nat) (B:Option Addr) (m:Nat) (B':Option Addr) (m':Nat) (s:Sys) (p:Aut) (L:Nat):Prop where
 at_:∃ lo hi,zN w lo hi A n s∧zC w lo hi B m B' m' p∧hi<=w.heap.size
 sv:zl s=true
 pv:zj p=true
 lt:L<64
section
variable {w W:World} {n c m d m' d' L:Nat} {A B B':Option Addr} {s:Sys} {p:Aut}
theorem Tch.ext (h:Tch w A n B m B' m' s p L)(hx:Ext w W):Tch W A n B m B' m' s p L:=by
 obtain⟨f,d,a,b,c⟩:=h.at_;exact⟨⟨f,d,a.ext hx,b.ext hx,Nat.le_trans c hx.size⟩,h.sv,h.pv,h.lt⟩
theorem zaK (h:Tch w A n B m B' m' s p L) :
  Calls Tryz.prog 130 #[.agg #[.bool false,(0:Int),(),(),s.al,s.st,.slice A n c,p.al,.slice B m d,.slice B' m' d',L]] w fun e w'=>e=.returned (.int .i64 (L:Nat))∧Ext w w':=by
 obtain⟨t,r,f,g,q⟩:=h.at_;have i:=za (fun W (hW:Ext w W)=>zex (c:=c) (d:=d) (d':=d') (L:=L) (f.ext hW) (g.ext hW) h.sv h.pv h.lt);clear h f g
 go_enter Tryz.func130,Tryz.ntmps130
 go_upto_region 1 with fail
 generalize U0:w.alloc _=l at *;obtain⟨a,j⟩:=gX U0;clear U0;have o:=j.cells;have k:=dB l;go_wp2_with (first
  |(go_at_call 142;refine (i.out _ a).mono (mQ fun u b=>?_)))
 go_ret;exact⟨rfl,a.trans b⟩
theorem zec {t:ByteArray}(h:Tch w A n B m B' m' s p L)(ht:t.size<=9223372036854775807) :
  Calls Tryz.prog 211 #[.agg #[.bool false,(0:Int),(),(),s.al,s.st,.slice A n c,p.al,.slice B m d,.slice B' m' d',L],t] w fun e w'=>e=.returned (.bool (zo s p L t))∧Ext w w':=by
 obtain⟨u,r,f,g,k⟩:=h.at_;have i:=za (fun W (hW:Ext w W)=>zdB (c:=c) (d:=d) (d':=d') (L:=L) (t:=t) (f.ext hW) (g.ext hW) h.sv h.pv h.lt (Nat.le_trans k hW.size) ht);clear h f g
 go_enter Tryz.func211,Tryz.ntmps211
 go_upto_region 1 with fail
 generalize U0:w.alloc _=o at *;obtain⟨a,j⟩:=gX U0;clear U0;have q:=j.cells;have l:=dB o;go_wp2_with (first
  |(go_at_call 75;refine (i.out _ a).mono (mQ fun v b=>?_)))
 go_ret;exact⟨rfl,a.trans b⟩
end
theorem str_loop (b:ByteArray):∀ (k:Nat) (i:Nat) (r:List UInt8),b.size - i=k->ByteArray.toList.loop b i r=r.reverse++b.data.toList.drop i:=by
 intro k
 induction k with
 |zero =>
  intro i r h;unfold ByteArray.toList.loop;rw [if_neg oM,List.drop_of_length_le (by rw [Array.length_toList];show b.size<=i;omega),List.append_nil]
 |succ k ih =>
  intro i r h;have a:i<b.size:=oM;unfold ByteArray.toList.loop;rw [if_pos a,ih (i+1) _ oM,gH (i:=i) (by rw [Array.length_toList];exact a),List.reverse_cons,jB];have e:b.get! i=b.data.toList[i]'(by rw [Array.length_toList];exact a):=by
   rw [Array.getElem_toList];show b.data[i]! = _;exact getElem!_pos b.data i a
  rw [e];rfl
theorem str_data (b:ByteArray):b.toList=b.data.toList:=by
 unfold ByteArray.toList;rw [str_loop b _ 0 [] rfl];rfl
theorem str_ext (h:x.toList=y.toList):x=y:=by
 rw [str_data,str_data] at h;cases x;cases y
 congr 1
 exact Array.toList_inj.1 h
theorem str_ne (h:¬ x=y):(x.toList==y.toList)=false:=by
 rw [beq_eq_false_iff_ne];exact fun e=>h (str_ext e)
noncomputable def zcs (l:List ByteArray) (x:ByteArray):Bool:=by classical exact decide (x∈l)
theorem zaj :zcs l x=true↔x∈l:=by unfold zcs;simp
theorem zcb :zcs l x=false↔x∉l:=by rw [← Bool.not_eq_true,zaj]
theorem zdr {c:Nat}   (h:Reads w lo hi 1 A n (zL l)) :
  Calls Tryz.prog 225 #[.slice A n c,x] w fun e w'=>e=.returned (.bool (zcs l x))∧w=w':=by
 have t:=h.len;have g:l.length=n:=by have:=h.length;rw [zaH] at this;omega
 have p:=za g;clear g
 go_enter Tryz.func225,Tryz.ntmps225
 go_wp2_with fail
 go_loop [5] (fun iv=>∃ i:Nat,iv=.int .i64 i∧i<=n∧Hid (∀ j,j<i->l[j]?≠some x)) (fun iv=>n - (intOf iv).toNat)
 case atStart=>exact⟨0,rfl,eD _,za (fun j h=>oM)⟩
 case round =>
  obtain⟨i,rfl,hi,a⟩:=hrel
  by_cases hlt:i<n
  ·have k:(i:Int)<(n:Int):=oM;obtain⟨r,y,rfl,_,_,m,s⟩:=h.str hlt
   by_cases he:y=x
   ·subst he;have d:=za (zaj.2 (eB m.out));go_wp2_with fail
    go_ret;exact⟨zm (by rw [d.out]),rfl⟩
   ·have o:=za he;have f:=str_ne he;clear he;go_wp2_with fail
    go_round
    case rel=>exact⟨i+1,gM,oM,za (fun j b=>by
     rcases Nat.lt_or_eq_of_le (Nat.le_of_lt_succ b) with q|rfl
     ·exact a.out j q
     ·rw [m.out];intro h;exact o.out (Option.some.inj h))⟩
    case measure=>simp [intOf];omega
  ·obtain rfl:i=n:=oM;have d:=za (show zcs l x=false by
    rw [zcb];intro hx;obtain⟨j,b⟩:=eT hx;exact a.out j (by have:=(List.getElem?_eq_some_iff.1 b).1;have:=p.out;omega) b)
   go_wp2_with fail
   go_ret;exact⟨zm (by rw [d.out]),rfl⟩
def zbt (f:ByteArray->Bool) (cols:List ByteArray) (x:ByteArray):List Bool:=cols.map fun c=>f (x++c)
def mkB (b:Bool):ByteArray:=if b then ⟨#[43]⟩ else ⟨#[45]⟩
def mkS (bs:List Bool):ByteArray:=bs.foldl (fun o b=>o++mkB b) ByteArray.empty
theorem mkS_snoc (bs:List Bool) (b:Bool):mkS (bs++[b])=mkS bs++mkB b:=by simp [mkS]
theorem zfl:∀ (bs:List Bool),(mkS bs).data.toList=bs.map fun b=>if b then 43 else 45:=by
 have a:∀ (bs:List Bool) (o:ByteArray),(bs.foldl (fun o b=>o++mkB b) o).data.toList=o.data.toList++bs.map fun b=>if b then 43 else 45:=by
  intro bs
  induction bs with
  |nil=>intro o;simp
  |cons b r ih =>
   intro o;rw [List.foldl_cons,ih,ByteArray.data_append,Array.toList_append,jB,gJ];cases b<;>rfl
 intro bs;unfold mkS;rw [a];rfl
theorem ziF {α β:Type} {f:α->β}(hf:∀ x y,f x=f y->x=y):∀ {a b:List α},a.map f=b.map f->a=b
 |[],[],_=>rfl
 |[],_ :: _,h=>by simp at h
 |_ :: _,[],h=>by simp at h
 |x :: a,y :: b,h=>by
  simp only [gJ,List.cons.injEq] at h
  rw [hf x y h.1,ziF hf h.2]
theorem mkS_inj {a b:List Bool}(h:mkS a=mkS b):a=b:=by
 have c:(mkS a).data.toList=(mkS b).data.toList:=by rw [h]
 rw [zfl,zfl] at c;exact ziF (fun x y=>by cases x<;>cases y<;>simp) c
theorem mkS_size (bs:List Bool):(mkS bs).size=bs.length:=by
 have h:=congrArg List.length (zfl bs);rw [eQ,Array.length_toList] at h;exact h
section
variable {w W:World} {n c m d m' d' L:Nat} {A B B':Option Addr} {s:Sys} {p:Aut}
theorem zeM (h:Tch w A n B m B' m' s p L)(hC:Reads w lo hi 1 C nc (zL cols))(hc:nc<=1000)(hx:x.size<=1000000)(hcs:∀ y∈cols,y.size<=1000000) :
  Calls Tryz.prog 134 #[.agg #[.bool false,(0:Int),(),(),s.al,s.st,.slice A n c,p.al,.slice B m d,.slice B' m' d',L],.slice C nc cc,x] w fun e w'=>e=.returned (.string (mkS (zbt (zo s p L) cols x)))∧Ext w w':=by
 have D:cols.length=nc:=by have:=hC.length;rw [zaH] at this;omega
 have O:=za (fun W (hW:Ext w W) (y:ByteArray) l=>zec (c:=c) (d:=d) (d':=d') (t:=y) (h.ext hW) l);have M:=za (fun W (hW:Ext w W)=>hC.ext hW);have Q:=za D;have q:=za hcs;clear h hC D hcs
 go_enter Tryz.func134,Tryz.ntmps134
 go_upto_region 1 with fail
 generalize U0:w.alloc _=H at *;obtain⟨f,S⟩:=gX U0;clear U0;have I:=S.cells;go_wp2_with fail
 go_loopw [7,8] (fun v iv wr=>∃ (k:Nat) (o:ByteArray),iv=.int .i64 k∧k<=nc∧v=.string o∧o.size<=k∧Hid (o=mkS (zbt (zo s p L) (cols.take k) x))∧Ext H wr) (fun _ iv _=>nc - (intOf iv).toNat)
 case atStart=>exact⟨0,_,rfl,eD _,rfl,dM,za rfl,dB _⟩
 case round =>
  obtain⟨k,o,rfl,hk,rfl,T,F,a⟩:=hrel
  by_cases hlt:k<nc
  ·have E:(k:Int)<(nc:Int):=oM;obtain⟨R,y,rfl,_,_,l,z⟩:=(M.out wr (f.trans a)).str hlt;have Y:=q.out y (eB l.out);have CY:∀ W,Ext wr W->W.cell? (R.add k)=some (.string y):=fun W hW=>hW.aa z;have J:=fun W (hW:Ext wr W)=>I W (a.trans hW);have U:¬ 9223372036854775807<x.size+y.size:=oM;have G:¬ 9223372036854775807<o.size+1:=oM;have b:(x++y).size<=9223372036854775807:=by rw [ByteArray.size_append];omega
   have g:=za (fun W (hW:Ext wr W)=>O.out W ((f.trans a).trans hW) (x++y) b);have V:=dB wr;have i:=za (show mkS (zbt (zo s p L) (cols.take (k+1)) x)=o++mkB (zo s p L (x++y)) by
    rw [eH,l.out,zbt,fB,← zbt,F.out,e7,List.map_singleton,mkS_snoc])
   obtain⟨bv,r⟩:∃ bv,Hid (zo s p L (x++y)=bv):=⟨_,rfl⟩;rw [r.out] at g i;clear z b;go_wp2_with fail
   go_region_held3 (fun W=>Ext wr W) (first|assumption|(refine fW ?_;assumption)|(refine e8 ?_ aM;assumption)|(refine e8 ?_ aM;refine fW ?_;assumption)) (first
    |(go_at_call 211;refine (g.out _ ?_).mono ?_;(first|assumption|(refine fW ?_;assumption));rintro e Z ⟨rfl,X⟩))
   have j:Ext H Z:=a.trans aM;cases bv
   all_goals
    go_wp2_with fail
    go_roundw
    case rel=>exact⟨k+1,_,gM,oM,rfl,by rw [ByteArray.size_append];show o.size+1<=k+1;omega,i.symm,j⟩
    case measure=>simp [intOf];omega
  ·obtain rfl:k=nc:=oM;have u:=za (show mkS (zbt (zo s p L) cols x)=o by rw [F.out,eE (oH Q.out)]);go_wp2_with fail
   go_ret;exact⟨by rw [u.out];rfl,f.trans a⟩
end
section
open Go.WideMaps Go.Maps
def zaX (T:List Nat):List Value:=T.map fun x=>.int .u16 (x:Nat)
theorem zbC (T:List Nat):(zaX T).length=T.length:=by simp [zaX]
def zgh (T:List Nat):Value:=.agg (zaX T).toArray
theorem pset_inj {U:List Nat}(h:zgh T=zgh U):T=U:=by
 unfold zgh zaX at h;injection h with h
 have c:T.map (fun x=>Value.int .u16 (x:Nat))=U.map fun x=>Value.int .u16 (x:Nat):=by simpa using h
 exact ziF (fun a b e=>by injection e with _ e;exact Int.ofNat.inj e) c
abbrev domP (T:List Nat):Prop:=T.length=12∧∀ x∈T,x<65536
theorem zhR:ArrKey Tryz.prog 249 247 12:=⟨Tryz.underlying249,kM,kM,kM⟩
theorem types_pos:(0:Nat)<(Tryz.prog).types.size:=of_decide_eq_true kM
theorem zie:∃ m,(Tryz.prog).types.size=m+1:=⟨(Tryz.prog).types.size - 1,oH types_pos⟩
theorem zgQ {α β:Type} {f:α->Option β}:∀ (l:List α),(∀ i∈l,(f i).isSome=true)->(l.mapM f).isSome=true
 |[],_=>rfl
 |a :: r,h=>by
  obtain⟨y,hy⟩:=Option.isSome_iff_exists.1 (h a sM)
  obtain⟨ys,hys⟩:=Option.isSome_iff_exists.1 (zgQ r (fun i hi=>h i (by simp [hi])))
  rw [List.mapM_cons,hy,hys]
  rfl
noncomputable def litP (T:List Nat):Lit:=(keyOf Tryz.prog 249 (zgh T)).getD (.bool false)
theorem zdS (h:domP T):(keyOf Tryz.prog 249 (zgh T)).isSome=true:=by
 obtain⟨c,f⟩:=h;have A:=zhR;obtain⟨m,j⟩:=zie;have a:=A.keyType zie;have b:(zaX T).toArray.size=12:=by simp [zaX,c]
 unfold keyOf;simp only [A.hu];rw [if_pos (by simp [a,zgh,Value.formed,A.hu,A.size,zaX,c]),j];unfold Program.keyLits;simp only [A.hu,zgh,Value.cells];rw [if_pos (by rw [A.size];simpa using b)];rw [Option.isSome_map,Option.isSome_map];refine zgQ _ fun i hi=>?_;rw [List.mem_range] at hi;obtain⟨x,d⟩:∃ x,T[i]?=some x:=⟨_,dC oM⟩;have l:=f x (eB d);have g:((zaX T).toArray.toList.drop (i*(Tryz.prog).cellsOf 247)).take ((Tryz.prog).cellsOf 247)=[.int .u16 (x:Nat)]:=by
  rw [A.one,Nat.mul_one];simp only [zaX];rw [List.take_one,List.head?_drop];simp [d]
 rw [g];cases m with
 |zero =>
  have n:(1:Nat)<(Tryz.prog).types.size:=of_decide_eq_true kM;omega
 |succ m =>
 unfold Program.keyLits;have k:(Lit.int .u16 (x:Int)).wf=true:=by
  simp [Lit.wf,IntKind.min,IntKind.max,IntKind.bits,IntKind.signed];omega
 simp [Tryz.underlying247,k]
theorem keyP:KeyG 242 249 zgh litP domP:=
 ⟨Keyed.of_law zhR.law,Tryz.underlying242,fun h=>by
  obtain⟨l,hl⟩:=Option.isSome_iff_exists.1 (zdS h);unfold litP;rw [hl];rfl,fun {x y} hx hy e=>by
  obtain⟨l,hl⟩:=Option.isSome_iff_exists.1 (zdS hx);obtain⟨k,hk⟩:=Option.isSome_iff_exists.1 (zdS hy);unfold litP at e;rw [hl,hk] at e;obtain rfl:l=k:=by simpa using e
  exact pset_inj ((Keyed.of_law zhR.law).inj hl hk)⟩
theorem keyS:KeyG 183 9 (fun x:ByteArray=>.string x) (fun x=>.string x.data.toList) (fun x=>x.size<=9223372036854775807):=
 ⟨string_keyed Tryz.underlying9,Tryz.underlying183,fun {x} h=>by simp [keyOf,Tryz.underlying9,mapKey,maxLen,h],fun _ _ e=>by
  injection e with e
  exact ByteArray.ext (Array.ext' e)⟩
end
theorem zit (es:List Edg):∀ u∈zx es,u.oneCell'=true:=by
 induction es with
 |nil=>intro u h;cases h
 |cons e r ih =>
  intro u h;simp only [zx,List.mem_cons] at h;rcases h with rfl|rfl|rfl|h
  ·rfl
  ·rfl
  ·rfl
  ·exact ih u h
def RetStrL (w:World) (l:List ByteArray) (e:Ending) (w':World):Prop:=
 ∃ A c,e=.returned (.slice A l.length c)∧w'.ownsRow w.heap.size 9 1 (.slice A l.length c) l.length (zL l)∧Ext w w'
def zap (f:ByteArray->Bool) (cols words:List ByteArray):List ByteArray:=words.map fun x=>mkS (zbt f cols x)
theorem strs_snoc (l:List ByteArray) (x:ByteArray):zL (l++[x])=zL l++[.string x]:=by simp [zL]
section
variable {w W:World} {n c m d m' d' L:Nat} {A B B':Option Addr} {s:Sys} {p:Aut}
theorem zee {nr cr lo2 hi2:Nat} (h:Tch w A n B m B' m' s p L)(hC:Reads w lo hi 1 C nc (zL cols))(hR:Reads w lo2 hi2 1 R nr (zL rows))(hc:nc<=1000)(hr:nr<=1000)(hcs:∀ y∈cols,y.size<=1000000)(hrs:∀ y∈rows,y.size<=1000000) :
  Calls Tryz.prog 132 #[.agg #[.bool false,(0:Int),(),(),s.al,s.st,.slice A n c,p.al,.slice B m d,.slice B' m' d',L],.slice C nc cc,.slice R nr cr] w (RetStrL w (zap (zo s p L) cols rows)):=by
 have I:rows.length=nr:=by have:=hR.length;rw [zaH] at this;omega
 have U:=za (fun W (hW:Ext w W) (y:ByteArray) l=>zeM (c:=c) (d:=d) (d':=d') (cc:=cc) (x:=y) (h.ext hW) (hC.ext hW) hc l hcs);have T:=za (fun W (hW:Ext w W)=>hR.ext hW);have F:=za I;have r:=za hrs;clear h hC hR I hrs hcs
 go_enter Tryz.func132,Tryz.ntmps132
 go_upto_region 1 with fail
 generalize U0:w.alloc _=o at *;obtain⟨g,Y⟩:=gX U0;clear U0;have Q:=Y.cells;go_wp2_with fail
 go_loopw [7,8] (fun v iv wr=>∃ k:Nat,iv=.int .i64 k∧k<=nr∧wr.ownsRow o.heap.size 9 1 v k (zL (zap (zo s p L) cols (rows.take k)))∧Ext o wr) (fun _ iv _=>nr - (intOf iv).toNat)
 case atStart=>exact⟨0,rfl,eD _,World.ownsRow_lit o #[] 0 (eA _) lM rfl,(dB _).alloc _⟩
 case round =>
  obtain⟨k,rfl,H,f,b⟩:=hrel
  by_cases hlt:k<nr
  ·have J:(k:Int)<(nr:Int):=oM;obtain⟨V,y,rfl,_,_,l,G⟩:=(T.out wr (g.trans b)).str hlt;have D:=r.out y (eB l.out);have CY:∀ W,Ext wr W->W.cell? (V.add k)=some (.string y):=fun W hW=>hW.aa G;have S:=fun W (hW:Ext wr W)=>Q W (b.trans hW);have q:=za (fun W (hW:Ext wr W)=>U.out W ((g.trans b).trans hW) y D);have j:=dB wr;have t:=za (show zL (zap (zo s p L) cols (rows.take (k+1)))=zL (zap (zo s p L) cols (rows.take k))++[.string (mkS (zbt (zo s p L) cols y))] by
    rw [eH,l.out,zap,fB,← zap,e7,List.map_singleton,strs_snoc])
   generalize mkS (zbt (zo s p L) cols y)=z at *;clear G;go_wp2_with fail
   refine uR (fun X=>Ext wr X) [9] (zu.of [0,1,2,3,4,5,6,7,8,9,10]) ?_;refine uQ ?_;refine ze fun K hK=>?_;go_simp;refine (q.out _ j.drew).mono (mQ fun M u=>?_);have a:Ext wr M:=j.drew.trans u;refine hK.out _ _ a ?_;refine pT ?_;refine uQ ?_;refine ze fun K hK=>?_;go_simp;refine hK.out _ _ (a.alloc _) ?_;refine pT ?_;refine zb fun K hK=>?_;refine zbT o M _ _ _ rfl 9 _ 1 16 Tryz.underlying99 zq rfl dM _ k (zL (zap (zo s p L) cols (rows.take k))) _ _ rfl rfl (b.trans a).size (zg f a) rfl (cells_str _) lM oM ?_;intro g8 cap8 w8 hown8 hg8 hat8 hlt8;refine hK.out _ _ ?_;refine pT ?_;refine uQ ?_;refine zf ?_;go_wp2_with fail
   go_roundw
   case rel=>exact⟨k+1,gM,oM,by rw [t.out];exact hown8,(b.trans a).grown hg8 (fun k H=>(f.lt k H).1)⟩
   case measure=>simp [intOf];omega
  ·obtain rfl:k=nr:=oM;obtain⟨O,Z,rfl⟩:=zi f;have E:=za (show (rows.take k)=rows from eE (oH F.out));rw [E.out] at f;have i:=za (show (zap (zo s p L) cols rows).length=k by rw [zap,eQ];exact F.out);go_wp2_with fail
   go_ret;exact⟨O,Z,by rw [i.out];rfl,by rw [i.out];exact zr f g.size,g.trans b⟩
theorem zfZ (h:Tch w A n B m B' m' s p L)(hx:x.size<=9223372036854775807) :
  Calls Tryz.prog 223 #[.agg #[.bool false,(0:Int),(),(),s.al,s.st,.slice A n c,p.al,.slice B m d,.slice B' m' d',L],x] w fun e w'=>e=.returned (.bool (inB x L&&decide (x.size<=4000)))∧Ext w w':=by
 have g:=za (fun W (hW:Ext w W)=>zaK (c:=c) (d:=d) (d':=d') (h.ext hW));have o:=h.lt;have a:Ext w (w.alloc (.cells #[.bool false,(0:Int),(),(),s.al,s.st,.slice A n c,p.al,.slice B m d,.slice B' m' d',L] 98)):=(dB _).alloc _;have i:=Blk.new w 98 #[.bool false,(0:Int),(),(),s.al,s.st,.slice A n c,p.al,.slice B m d,.slice B' m' d',L];clear h;cases hin:inB x L
 all_goals
  have b:=za hin;clear hin
  go_enter Tryz.func223,Tryz.ntmps223
  go_upto_region 1 with fail
  generalize w.alloc _=k at *;have l:=i.cells;have j:=dB k;go_wp2_with (first
   |(go_at_call 130;refine (g.out _ a).mono (mQ fun q f=>?_))
   |(go_at_call 143;refine (zaN hx oM).mono ?_;rw [b.out];rintro e r ⟨rfl,rfl⟩))
  go_ret;exact⟨zm (by first|rfl|(rw [Bool.true_and,decide_eq_decide];omega)),a.trans f⟩
end
def zbH (l:Nat):ByteArray:=strOfNums [((97+l:Nat):Int)]
theorem zch (l:Nat):(zbH l).size=1:=strOfNums_size _
structure zbG (L:Nat) (f:ByteArray->Bool) (rows cols:List ByteArray):Prop where
 r1:1<=rows.length
 r12:rows.length<=12
 c1:1<=cols.length
 c20:cols.length<=20
 r0:rows[0]?=some ⟨#[]⟩
 c0:cols[0]?=some ⟨#[]⟩
 rw_:∀ (i:Nat) (x:ByteArray),1<=i->rows[i]?=some x->inB x L=true∧∃ y l,l<6∧x=y++zbH l∧y∈rows.take i
 cw:∀ (i:Nat) (x:ByteArray),1<=i->cols[i]?=some x->inB x L=true∧x.size<=4000∧x∉cols.take i
 nd:(rows.map (zbt f cols)).Nodup
section
variable {L:Nat} {f:ByteArray->Bool} {rows cols:List ByteArray}
theorem inB_empty (L:Nat):inB ⟨#[]⟩ L=true:=by unfold inB overB;rfl
theorem zbG.rsz (h:zbG L f rows cols):∀ (i:Nat) (x:ByteArray),rows[i]?=some x->x.size<=i:=by
 intro i
 induction i using Nat.strongRecOn with
 |ind i ih =>
  intro x hx;rcases iR i with rfl|c
  ·rw [h.r0] at hx;obtain rfl:=Option.some.inj hx;exact eA _
  ·obtain⟨-,y,l,g,rfl,d⟩:=h.rw_ i x c hx;obtain⟨j,b⟩:=eT d;have a:j<i:=by have:=(List.getElem?_eq_some_iff.1 b).1;rw [fH] at this;omega
   rw [j3 a] at b;have:=ih j a y b;rw [ByteArray.size_append,zch l];omega
theorem zbG.rin (h:zbG L f rows cols) (hx:x∈rows):inB x L=true∧x.size<=12:=by
 obtain⟨i,a⟩:=eT hx;have c:=(List.getElem?_eq_some_iff.1 a).1;refine⟨?_,by have:=h.rsz i x a;have:=h.r12;omega⟩;rcases iR i with rfl|b
 ·rw [h.r0] at a;obtain rfl:=Option.some.inj a;exact inB_empty L
 ·exact (h.rw_ i x b a).1
theorem zbG.cin (h:zbG L f rows cols) (hx:x∈cols):inB x L=true∧x.size<=4000:=by
 obtain⟨i,a⟩:=eT hx;rcases iR i with rfl|b
 ·rw [h.c0] at a;obtain rfl:=Option.some.inj a;exact⟨inB_empty L,dM⟩
 ·exact⟨(h.cw i x b a).1,(h.cw i x b a).2.1⟩
theorem rowsM_nodup (h:zbG L f rows cols):(zap f cols rows).Nodup:=by
 have a:=h.nd;unfold zap;have b:rows.map (fun x=>mkS (zbt f cols x))=(rows.map (zbt f cols)).map mkS:=by rw [List.map_map];rfl
 rw [b];exact List.pairwise_map.2 (a.imp fun hne e=>hne (mkS_inj e))
end
def TabAt (w:World) (R:Option Addr) (nr:Nat) (C:Option Addr) (nc:Nat) (rows cols:List ByteArray):Prop:=
 ∃ lo hi lo2 hi2,Reads w lo hi 1 R nr (zL rows)∧Reads w lo2 hi2 1 C nc (zL cols)
theorem TabAt.ext {W:World}  {nr:Nat} (h:TabAt w R nr C nc rows cols)(hx:Ext w W):TabAt W R nr C nc rows cols:=by
 obtain⟨g,f,b,a,c,d⟩:=h;exact⟨g,f,b,a,c.ext hx,d.ext hx⟩
theorem TabAt.nr {nr:Nat} (h:TabAt w R nr C nc rows cols):rows.length=nr∧cols.length=nc:=by
 obtain⟨j,i,g,f,c,d⟩:=h;have a:=c.length;have b:=d.length;rw [zaH] at a b;omega
theorem Reads.takeS (h:Reads w lo hi 1 A n (zL l))(hk:k<=n):Reads w lo hi 1 A k (zL (l.take k)):=by
 have g:=h.length;rw [zaH] at g;refine⟨by rw [zaH,fH];omega,oH h.len,fun h0=>?_⟩;obtain⟨a,e,b,c,d⟩:=h.2.2 oM;refine⟨a,e,b,c,fun j u hu=>d j u ?_⟩;unfold zL at hu ⊢;rw [List.map_take] at hu;have f:j<k:=by have:=(List.getElem?_eq_some_iff.1 hu).1;rw [fH] at this;omega
 rwa [j3 f] at hu
theorem str_front (y:ByteArray) (l:Nat):(y++zbH l).extract 0 y.size=y:=by
 rw [ByteArray.extract_append_eq_left rfl]
section
variable {w W:World} {L nr nc cr cc:Nat} {R C:Option Addr} {rows cols:List ByteArray} {f:ByteArray->Bool}
theorem ziP (hT:TabAt w R nr C nc rows cols)(hI:zbG L f rows cols)(hL:L<64)(hcr:nr<=cr)(hcc:nc<=cc) :
  Calls Tryz.prog 265 #[L,.agg #[.slice R nr cr,.slice C nc cc]] w fun e w'=>e=.returned (.bool true)∧Ext w w':=by
 obtain⟨Y,Z⟩:=hT.nr;have z:=hI.r1;have B:=hI.r12;have r:=hI.c1;have s:=hI.c20;rw [Y] at z B;rw [Z] at r s;obtain⟨lo,hi,ar,aj,M,O⟩:=hT;obtain⟨H,x,rfl,_,_,j,d⟩:=M.str (show 0<nr by omega);obtain⟨J,y,rfl,_,_,D,p⟩:=O.str (show 0<nc by omega);obtain rfl:=Option.some.inj (j.out.symm.trans hI.r0);obtain rfl:=Option.some.inj (D.out.symm.trans hI.c0);rw [addr_zero] at d p;have U:=za (fun W (hW:Ext w W)=>M.ext hW);have V:=za (fun W (hW:Ext w W)=>O.ext hW);have G:=za hI;have CX:=fun W (hW:Ext w W)=>hW.aa d;have CY:=fun W (hW:Ext w W)=>hW.aa p;clear M O hI j D d p Y Z
 go_enter Tryz.func265,Tryz.ntmps265
 go_upto_region 1 with fail
 generalize U0:w.alloc _=T at *;obtain⟨c,I⟩:=gX U0;clear U0;have k1:=I.cell;have d:=CX _ c;have p:=CY _ c;have b:=dB T;go_wp2_with fail
 go_loopw [7] (fun iv wr=>∃ k:Nat,1<=k∧k<=nr∧iv=.int .i64 k∧Ext T wr) (fun iv _=>nr - (intOf iv).toNat)
 case atStart=>exact⟨1,eA _,z,rfl,b⟩
 case round =>
  clear b k1 d p;obtain⟨k,i,E,rfl,a⟩:=hrel
  by_cases hlt:k<nr
  ·have u:(k:Int)<(nr:Int):=oM;have Q:(k:Int)<=(cr:Int):=oM;obtain⟨ah,x,e,_,_,j,d⟩:=(U.out wr (c.trans a)).str hlt;obtain rfl:=Option.some.inj e;obtain⟨g,y,l,hl,o,D⟩:=G.out.rw_ k x i j.out;have S:x.size=y.size+1:=by rw [o,ByteArray.size_append,zch]
   have an:x.extract 0 y.size=y:=by rw [o,str_front]
   have h0:0<x.size:=oM;have ao:y.size<=12:=by have:=G.out.rsz k x j.out;omega
   have h:=za (zaj.2 D);have m:=za (fun W (hW:Ext w W)=>(U.out W hW).takeS E);have n:=za g;have F:∀ W,Ext wr W->W.cell? (H.add k)=some (.string x):=fun W hW=>hW.aa d;have CB:∀ W,Ext wr W->∀ q,W.cell? ⟨w.heap.size,q,none⟩=#[Value.slice (some H) nr cr,.slice (some J) nc cc][q]?:=fun W hW=>(I.ext (a.trans hW)).cell;have b:=dB wr;have am:IntKind.i64.wrap (y.size:Int)=(y.size:Int):=IntWalk.i64_in _ oM;have al:((y.size:Int)+1==0)=false:=by simp;omega
   have ap:(y.size:Int)<=(y.size:Int)+1:=oM;clear g D o d j hl e;go_wp2_with fail
   refine uR (fun X=>Ext wr X) [] (zu.of [0,1,2,3,4,5,6,7,8,9,10,11,12,13,14,15,16,17,18,19,20,21]) ?_;refine uQ ?_;refine ze fun K hK=>?_;go_simp;refine (zaN oM oM).mono ?_;rw [n.out];rintro e w3 ⟨rfl,rfl⟩;refine hK.out _ _ b.drew ?_;refine pT ?_;refine uQ ?_;refine ze fun K hK=>?_;go_simp;refine (zdr (m.out _ (c.trans (a.trans b.drew)))).mono ?_;rw [h.out];rintro e w4 ⟨rfl,rfl⟩;refine hK.out _ _ b.drew ?_;refine pT ?_;refine uQ ?_;refine zf ?_;go_wp2_with fail
   go_roundw
   case rel=>exact⟨k+1,oM,oM,gM,a.trans b.drew⟩
   case measure=>simp [intOf];omega
  ·have t:(nr:Int)<=(k:Int):=oM;go_wp2_with fail
   go_loopw [9] (fun iv wr=>∃ k:Nat,1<=k∧k<=nc∧iv=.int .i64 k∧Ext T wr) (fun iv _=>nc - (intOf iv).toNat)
   case atStart=>exact⟨1,eA _,r,rfl,a⟩
   case round =>
    clear a t hlt E i;obtain⟨k,i,E,rfl,a⟩:=hrel
    by_cases hlt:k<nc
    ·have u:(k:Int)<(nc:Int):=oM;have Q:(k:Int)<=(cc:Int):=oM;obtain⟨ai,x,e,_,_,j,d⟩:=(V.out wr (c.trans a)).str hlt;obtain rfl:=Option.some.inj e;obtain⟨g,S,v⟩:=G.out.cw k x i j.out;have aa:¬ (4000<(x.size:Int)):=oM;have h:=za (zcb.2 v);have m:=za (fun W (hW:Ext w W)=>(V.out W hW).takeS E);have n:=za g;have F:∀ W,Ext wr W->W.cell? (J.add k)=some (.string x):=fun W hW=>hW.aa d;have CB:∀ W,Ext wr W->∀ q,W.cell? ⟨w.heap.size,q,none⟩=#[Value.slice (some H) nr cr,.slice (some J) nc cc][q]?:=fun W hW=>(I.ext (a.trans hW)).cell;have b:=dB wr;clear g v d j e;go_wp2_with (first
      |(go_at_call 143;refine (zaN oM oM).mono ?_;rw [n.out];rintro e w3 ⟨rfl,rfl⟩)
      |(go_at_call 225;refine (zdr (m.out _ (c.trans a))).mono ?_;rw [h.out];rintro e w3 ⟨rfl,rfl⟩))
     go_roundw
     case rel=>exact⟨k+1,oM,oM,gM,a⟩
     case measure=>simp [intOf];omega
    ·have t:(nc:Int)<=(k:Int):=oM;go_wp2_with fail
     go_ret;exact⟨rfl,c.trans a⟩
end
theorem zbG.rsz' {L:Nat}  (h:zbG L f rows cols):(∀ y∈rows,y.size<=1000000)∧∀ y∈cols,y.size<=1000000:=
 ⟨fun y hy=>by have:=(h.rin hy).2;omega,fun y hy=>by have:=(h.cin hy).2;omega⟩
section
variable {w W:World} {n c m d m' d' L:Nat} {A B B':Option Addr} {s:Sys} {p:Aut} {nr nc cr cc:Nat} {R C:Option Addr} {rows cols:List ByteArray}
theorem zbQ (h:Tch w A n B m B' m' s p L)(hT:TabAt w R nr C nc rows cols)(hI:zbG L (zo s p L) rows cols)(hcr:nr<=cr)(hcc:nc<=cc) :
  Calls Tryz.prog 208 #[.agg #[.bool false,(0:Int),(),(),s.al,s.st,.slice A n c,p.al,.slice B m d,.slice B' m' d',L],.agg #[.slice R nr cr,.slice C nc cc]] w fun e w'=>e=.returned (.bool true)∧Ext w w':=by
 obtain⟨M,Y⟩:=hT.nr;have z:=hI.r12;have v:=hI.c20;rw [M] at z;rw [Y] at v;have HA:=za (fun W (hW:Ext w W)=>zaK (c:=c) (d:=d) (d':=d') (h.ext hW));have HS:=za (fun W (hW:Ext w W)=>ziP (cr:=cr) (cc:=cc) (hT.ext hW) hI h.lt hcr hcc);obtain⟨lo,hi,aw,aq,Z,h2⟩:=hT;have HR:=za (fun W (hW:Ext w W)=>zee (c:=c) (d:=d) (d':=d') (cc:=cc) (cr:=cr) (h.ext hW) (h2.ext hW) (Z.ext hW) oM oM hI.rsz'.2 hI.rsz'.1);have S:=za (rowsM_nodup hI);have l:(zap (zo s p L) cols rows).length=nr:=by rw [zap,eQ];exact M
 generalize zap (zo s p L) cols rows=zs at *;clear h Z h2 hI M Y
 go_enter Tryz.func208,Tryz.ntmps208
 go_upto_region 1 with fail
 generalize U0:(w.alloc _).alloc _=T at *;obtain⟨o,b1,b2⟩:=Ext.x2_ U0;clear U0;have CB:=b1.cells;have CT:=b2.cells;have f:=dB T;refine uR (fun X=>Ext T X) [] (zu.of [0,2,1,3,4]) ?_;refine uQ ?_;refine ze fun K hK=>?_;go_simp;refine (HA.out _ (o.trans f.drew)).mono (mQ fun w2 F=>?_);have a:Ext T w2:=f.drew.trans F;refine hK.out _ _ a ?_;refine pT ?_;refine uQ ?_;refine ze fun K hK=>?_;go_simp;refine (HS.out _ (o.trans a)).mono (mQ fun w3 H=>?_);have b:=a.trans H;refine hK.out _ _ b ?_;refine pT ?_;refine uQ ?_;refine zf ?_;clear a F H;go_wp2_with (first|(go_at_call 132;refine (HR.out _ (o.trans b)).mono ?_;rintro e U ⟨G,g,rfl,r,I⟩))
 rw [l] at r;have t:=za l;clear l;have E:=b.trans I;have D:=Reads.ae r;have u:=za (fun W (hW:Ext U W)=>D.ext hW);have av:nr<=g:=by
  rcases r.2 with ⟨e,h0⟩|⟨g0,an,ao,e,_,_,ab,_⟩
  ·omega
  ·injection e with _ _ h3;omega
 clear b I r D
 go_loopw [6] (fun iv wr=>∃ k:Nat,k<=nr∧iv=.int .i64 k∧Ext U wr) (fun iv _=>nr - (intOf iv).toNat)
 case atStart=>exact⟨0,eD _,rfl,dB _⟩
 case round =>
  obtain⟨k,hk,rfl,q⟩:=hrel
  by_cases hlt:k<nr
  ·have ae:(k:Int)<(nr:Int):=oM;have au:(k:Int)<=(g:Int):=oM;obtain⟨ad,x,rfl,_,_,hx,V⟩:=(u.out wr q).str hlt;have y:=za (show zcs (zs.take k) x=false by
    rw [zcb];intro hm;obtain⟨j,O⟩:=eT hm;have Q:j<k:=by have:=(List.getElem?_eq_some_iff.1 O).1;rw [fH] at this;omega
    rw [j3 Q] at O;have:=(List.getElem?_inj (i:=j) (j:=k) (oH t.out) S.out).1 (O.trans hx.out.symm);omega)
   have J:=za (fun W (hW:Ext U W)=>(u.out W hW).takeS hk);have CX:∀ W,Ext wr W->W.cell? (ad.add k)=some (.string x):=fun W hW=>hW.aa V;have f:=dB wr;clear V hx;go_wp2_with fail
   refine uR (fun X=>Ext wr X) [] (zu.of [0,1,2,3,4,5,6,7]) ?_;refine uQ ?_;refine ze fun K hK=>?_;go_simp;refine (zdr (J.out _ (q.trans f.drew))).mono ?_;rw [y.out];rintro e w5 ⟨rfl,rfl⟩;refine hK.out _ _ f.drew ?_;refine pT ?_;refine uQ ?_;refine zf ?_;go_wp2_with fail
   go_roundw
   case rel=>exact⟨k+1,oM,gM,q.trans f.drew⟩
   case measure=>simp [intOf];omega
  ·have ap:(nr:Int)<=(k:Int):=oM;go_wp2_with fail
   go_ret;exact⟨rfl,o.trans (E.trans q)⟩
def candL (L:Nat) (rows:List ByteArray):List ByteArray:=rows.flatMap fun r=>(letters L 6).map fun l=>r++zbH l
noncomputable def zaw (L:Nat) (f:ByteArray->Bool) (rows cols:List ByteArray):Option ByteArray:=(candL L rows).find? fun x=>!zcs (zap f cols rows) (mkS (zbt f cols x))
theorem find_pre {α:Type} {P:α->Bool} {pre post l:List α} {x:α}(hl:l=pre++x :: post)(hp:∀ y∈pre,P y=false)(hx:P x=true):l.find? P=some x:=by
 rw [hl,List.find?_append,List.find?_eq_none.2 (fun y hy=>by rw [hp y hy];decide),Option.none_or,List.find?_cons_of_pos hx]
theorem open_find {zs:List ByteArray} {ls:List Nat}  {i l:Nat} (hx:rows[i]?=some x)(hl:ls[k]?=some l)(hy:x++zbH l=y)
  (hd:∀ y∈(rows.take i).flatMap (fun r=>ls.map fun l=>r++zbH l),zcs zs (mkS (zbt f cols y))=true) (hdk:∀ y∈(ls.take k).map (fun l=>x++zbH l),zcs zs (mkS (zbt f cols y))=true) (hm:zcs zs (mkS (zbt f cols y))=false) :
  (rows.flatMap fun r=>ls.map fun l=>r++zbH l).find? (fun x=>!zcs zs (mkS (zbt f cols x)))=some y:=by
 have g:rows=rows.take i++x :: rows.drop (i+1):=by
  obtain⟨b,c⟩:=List.getElem?_eq_some_iff.1 hx;rw [← c,← gH b,iN]
 have d:ls=ls.take k++l :: ls.drop (k+1):=by
  obtain⟨b,c⟩:=List.getElem?_eq_some_iff.1 hl;rw [← c,← gH b,iN]
 have e:ls.map (fun l=>x++zbH l)=(ls.take k).map (fun l=>x++zbH l)++y :: (ls.drop (k+1)).map (fun l=>x++zbH l):=by
  conv=>lhs;rw [d]
  rw [fB,gJ,hy]
 refine find_pre (pre:=(rows.take i).flatMap (fun r=>ls.map fun l=>r++zbH l)++(ls.take k).map (fun l=>x++zbH l)) (post:=(ls.drop (k+1)).map (fun l=>x++zbH l)++(rows.drop (i+1)).flatMap (fun r=>ls.map fun l=>r++zbH l)) ?_ ?_ ?_
 ·conv=>lhs;rw [g]
  rw [List.flatMap_append,List.flatMap_cons,e];simp only [jB,List.cons_append]
 ·intro y' hy';show (!zcs zs (mkS (zbt f cols y')))=false;rcases List.mem_append.1 hy' with a|a
  ·rw [hd y' a,Bool.not_true]
  ·rw [hdk y' a,Bool.not_true]
 ·show (!zcs zs (mkS (zbt f cols y)))=true;rw [hm,Bool.not_false]
theorem zef {l:Nat}(h1:l<6):Calls Tryz.prog 135 #[l] w fun e w'=>e=.returned (.string (zbH l))∧Ext w w':=zey h1
theorem zfY (h:Tch w A n B m B' m' s p L)(hT:TabAt w R nr C nc rows cols)(hI:zbG L (zo s p L) rows cols) :
  Calls Tryz.prog 209 #[.agg #[.bool false,(0:Int),(),(),s.al,s.st,.slice A n c,p.al,.slice B m d,.slice B' m' d',L],.agg #[.slice R nr cr,.slice C nc cc]] w fun e w'=>e=.returned (.tuple #[.string ((zaw L (zo s p L) rows cols).getD ⟨#[]⟩),.bool (zaw L (zo s p L) rows cols).isSome])∧Ext w w':=by
 obtain⟨e1,e2⟩:=hT.nr;have ah:=hI.r12;have af:=hI.c20;rw [e1] at ah;rw [e2] at af;have HA:=za (fun W (hW:Ext w W)=>zaK (c:=c) (d:=d) (d':=d') (h.ext hW));obtain⟨lo,hi,bd,a7,v,h2⟩:=hT;have HR:=za (fun W (hW:Ext w W)=>zee (c:=c) (d:=d) (d':=d') (cc:=cc) (cr:=cr) (h.ext hW) (h2.ext hW) (v.ext hW) oM oM hI.rsz'.2 hI.rsz'.1);have HW:=za (fun W (hW:Ext w W) (y:ByteArray) D=>zeM (c:=c) (d:=d) (d':=d') (cc:=cc) (x:=y) (h.ext hW) (h2.ext hW) oM D hI.rsz'.2);have H1:=za (fun W (hW:Ext w W)=>v.ext hW);have hL:=h.lt;have ar:=za (fun x V=>hI.rin (x:=x) V);have M:(zap (zo s p L) cols rows).length=nr:=by rw [zap,eQ];exact e1
 have ag:zaw L (zo s p L) rows cols=(candL L rows).find? fun x=>!zcs (zap (zo s p L) cols rows) (mkS (zbt (zo s p L) cols x)):=rfl;generalize zaw L (zo s p L) rows cols=op at *;generalize zap (zo s p L) cols rows=zs at *;have ae:=za ag;have aI:=za M;have He:=za e1;clear h v h2 hI e1 e2 ag M
 go_enter Tryz.func209,Tryz.ntmps209
 go_upto_region 1 with fail
 generalize U0:(w.alloc _).alloc _=w1 at *;obtain⟨u,b1,b2⟩:=Ext.x2_ U0;clear U0;have CB:=b1.cells;have CT:=b2.cells;have j:=dB w1;go_wp2_with (first
  |(go_at_call 130;refine (HA.out _ u).mono (mQ fun w2 ai=>?_))
  |(go_at_call 131;refine (zaG L tM _).mono ?_;rintro e w3 ⟨HL,hc,rfl,H,aj⟩;have I:=ai.trans aj)
  |(go_at_call 132;refine (HR.out _ (u.trans I)).mono ?_;rintro e w4 ⟨G,g,rfl,F,X⟩;have b:=I.trans X))
 have O:=Reads.ae F;have HG:=za (fun W (hW:Ext w4 W)=>O.ext hW);have t:=zg H X;have aa:=za (fun W (hW:Ext w4 W)=>zg t hW);have az:=za (fun l (Z:l∈letters L 6)=>(zB.1 Z).1);have E:=za (show candL L rows=rows.flatMap fun r=>(letters L 6).map fun l=>r++zbH l from rfl);have a8:(letters L 6).length<=6:=zJ L 6;generalize letters L 6=S at *;clear H t O F ai aj I X j;have j:=dB w4
 go_loopw [8] (fun iv wr=>∃ i:Nat,i<=nr∧iv=.int .i64 i∧Hid (∀ x∈(rows.take i).flatMap (fun r=>S.map fun l=>r++zbH l),zcs zs (mkS (zbt (zo s p L) cols x))=true)∧Ext w4 wr) (fun iv _=>nr - (intOf iv).toNat)
 case atStart=>exact⟨0,eD _,rfl,za (fun x V=>by simp at V),j⟩
 case round =>
  clear j;obtain⟨i,hi,rfl,o,f⟩:=hrel;have ap:=fun W (hW:Ext wr W)=>CT W (b.trans (f.trans hW));have j:=dB wr
  by_cases hlt:i<nr
  ·have aN:(i:Int)<(nr:Int):=oM;obtain⟨ad,x,rfl,_,_,V,cx⟩:=(H1.out wr (u.trans (b.trans f))).str hlt;have CX:∀ W,Ext wr W->W.cell? (ad.add i)=some (.string x):=fun W hW=>hW.aa cx;have bb:=(ar.out x (eB V.out)).2;have ak:=za V.out;clear cx V;go_wp2_with fail
   obtain⟨wo,aB⟩:∃ wo,wo=wr:=⟨_,rfl⟩;subst aB
   go_loopw [9] (fun kv wr=>∃ k:Nat,k<=S.length∧kv=.int .i64 k∧Hid (∀ y∈(S.take k).map (fun l=>x++zbH l),zcs zs (mkS (zbt (zo s p L) cols y))=true)∧Ext wo wr) (fun kv _=>S.length - (intOf kv).toNat)
   case atStart=>exact⟨0,eD _,rfl,za (fun y D=>by simp at D),j⟩
   case round =>
    clear j;obtain⟨k,hk,rfl,T,a⟩:=hrel
    by_cases hkl:k<S.length
    ·have aL:(k:Int)<(S.length:Int):=oM;obtain⟨l,Z⟩:∃ l,S[k]?=some l:=⟨_,dC hkl⟩;have ay:=az.out l (eB Z);have Y:=aa.out wr (f.trans a);obtain⟨gl,rfl,a5,-⟩:=zao Y oM;have cl:=zcB Y hkl;rw [List.getD_eq_getElem?_getD,Z,Option.getD_some] at cl;have CL:∀ W,Ext wr W->W.cell? ⟨gl,k,none⟩=some (.int .i64 (l:Nat)):=fun W hW=>hW.aa cl;have aU:=fun W (hW:Ext wr W)=>CX W (a.trans hW);have aS:=fun W (hW:Ext wr W)=>ap W (a.trans hW);have aQ:∀ W,Ext wr W->∀ q,W.cell? ⟨w.heap.size,q,none⟩=#[Value.bool false,.int .i64 0,.slice none 0 0,.slice none 0 0,.int .i64 s.al,.int .i64 s.st,.slice A n c,.int .i64 p.al,.slice B m d,.slice B' m' d',.int .i64 L][q]?:=fun W hW=>CB W ((b.trans (f.trans a)).trans hW);have HT:=za (fun W=>zef (w:=W) ay);have Hl:=za Z;obtain⟨z,hz⟩:∃ z,Hid (zbH l=z):=⟨_,rfl⟩;rw [hz.out] at HT;have bc:z.size=1:=by rw [← hz.out];exact zch l
     have a9:¬ 9223372036854775807<x.size+1:=oM;have ab:=za (fun W (hW:Ext wr W)=>HW.out W ((u.trans (b.trans (f.trans a))).trans hW) (x++z) (by rw [ByteArray.size_append];omega));have aq:=za (fun W (hW:Ext wr W)=>HG.out W ((f.trans a).trans hW));have j:=dB wr;obtain⟨y,D⟩:∃ y,x++z=y:=⟨_,rfl⟩;rw [D] at ab;have am:Hid (x++zbH l=y):=by unfold Hid;rw [hz.out];exact D
     clear Z cl Y;go_wp2_with fail
     go_region_held3 (fun W=>Ext wr W) (first|assumption|(refine fW ?_;assumption)|(refine e8 ?_ aM;assumption)|(refine e8 ?_ aM;refine fW ?_;assumption)) (first
      |(go_at_call 135;refine (HT.out _).mono (mQ fun w7 ba=>?_)))
     have Q:Ext wr w7:=aM;clear D;cases hm:zcs zs (mkS (zbt (zo s p L) cols y))
     all_goals
      have Hm:=za hm;clear hm;go_wp2_with (first
       |(go_at_call 134;refine (ab.out _ Q).mono (mQ fun w8 aC=>?_);have J:=Q.trans aC)
       |(go_at_call 225;with_reducible refine (zdr (aq.out _ J)).mono ?_;rw [Hm.out];rintro e w9 ⟨rfl,rfl⟩))
     ·have U:=za (show op=some y by
       rw [ae.out,E.out];exact open_find ak.out Hl.out am.out o.out T.out Hm.out)
      go_ret2;exact⟨by rw [U.out];rfl,u.trans (b.trans (f.trans (a.trans J)))⟩
     ·go_roundw
      case rel=>exact⟨k+1,oM,gM,za (fun y' hy'=>by
       rw [eH,Hl.out,fB] at hy';rcases List.mem_append.1 hy' with v|v
       ·exact T.out y' v
       ·simp at v;rw [v,am.out];exact Hm.out),a.trans J⟩
      case measure=>simp [intOf];omega
    ·have ax:(S.length:Int)<=(k:Int):=oM;go_wp2_with fail
     go_roundw
     case rel=>exact⟨i+1,oM,gM,za (fun y D=>by
      rw [eH,ak.out,List.flatMap_append] at D;rcases List.mem_append.1 D with v|v
      ·exact o.out y v
      ·refine T.out y ?_;rw [eE oM];simpa using v),f.trans a⟩
     case measure=>simp [intOf];omega
  ·have ax:(nr:Int)<=(i:Int):=oM;have aA:=za (show op=none by
    rw [ae.out,E.out,List.find?_eq_none];intro y D;have:=o.out y (by rw [eE (oH He.out)];exact D);rw [this];decide)
   go_wp2_with fail
   go_ret2;exact⟨by rw [aA.out];rfl,u.trans (b.trans f)⟩
end
end Go.Proofs.YtcfchopfijalpaaGreatDoor
