/- impl.firstPa -/
import Derived.Test.YtckbjnndaaoddaaGreatDoorY02
import Derived.Shelf.RegionOpenPlain
import Derived.Deep.LoopGhost
import Derived.Sort.WalkB12
import Derived.Lib.SlicesMore
import Derived.Laws.BytesArg
import Derived.IntWalk
set_option maxHeartbeats 4000000
set_option maxRecDepth 100000
namespace Go.Proofs.YtckbjnndaaoddaaGreatDoor
open Go Go.RowKit
open Blk renaming new->eX
open Bool renaming and_eq_true->eD,eq_false_iff->fT
open Ext renaming refl->dE
open Frm renaming refl->jG
open Int renaming natCast_ediv->jL,natCast_emod->iN
open List renaming append_nil->gS,eq_nil_of_length_eq_zero->eJ,getD_eq_getElem?_getD->eE,getElem?_append_left->eH,getElem?_append_right->eN,getElem?_eq_getElem->dH,getElem?_map->eM,getElem?_of_mem->eU,getElem?_range->iB,getElem_mem->gI,length_append->eK,length_map->eT,length_take->fL,map_append->fO,mem_append->iU,mem_of_getElem?->dG,mem_of_mem_take->iF,mem_singleton->fN,pairwise_lt_range->kT,replicate->eQ,take_add_one->eG,take_length->fB,take_of_length_le->eF
open Nat renaming eq_of_testBit_eq->gY,le_refl->dI,le_trans->eI,lt_of_lt_of_le->eV,lt_trichotomy->fQ,mod_lt->iQ,mul_le_mul->fU,pow_le_pow_right->e6,zero_add->eO,zero_le->eC
open Option renaming toList_some->e8
open Reads renaming af->eW
variable {A AA B PA SA:Option Addr} {G K v:Int} {L at_ fr ns:List Nat} {M N R ac an base c c' cap g hi hi' i j k k0 kg l lo lo' m n off p pc pn q r sc x:Nat} {S:List Bool} {T:Nat->Prop} {W a b w w':World} {capg cs:Array Value} {ds xs:List Int} {es:List Edg} {ss:List Sys} {sv:Value} {t:TypeId}
def RetVisit (w0 w:World) (bs bg bt gs N cs:Nat) (fg:Value) (S:List Bool) (sts:List (Stp × Value)) (goal:Nat->Bool) (parent:Int) (letter:Nat) (ns:List Nat) (e:Ending) (w':World):Prop:=
 e=.returned (.bool ((vis S ns).2.any goal))∧Ext w0 w'∧w.heap.size<=w'.heap.size ∧
  ∃ (vst:Value) (sts':List (Stp × Value)),Sea w0 w' bs bg bt gs N cs fg (vis S ns).1 vst sts' ∧
   (((vis S ns).2=[]∧sts'=sts)∨((vis S ns).2≠[]∧∃ v,sts'=sts++[(⟨parent,letter,(vis S ns).2⟩,v)]))
theorem vis_take (h:ns[k]?=some n):vis S (ns.take (k+1))=visN (vis S (ns.take k)) n:=by
 rw [eG,h];exact vis_snoc _ _ _
theorem Frm.grown_ {W':World} {row:Option Nat}(h:Frm T w W)(hg:W.grownBy W' row)(hr:∀ k,row=some k->w.heap.size<=k):Frm T w W':=
 ⟨hg.os.trans h.os,hg.tape.trans h.tape,hg.output.trans h.output,eI h.size hg.size,fun k hk hn=>(hg.block k (eV hk h.size) (fun e=>by have:=hr k e.symm;omega)).trans (h.block k hk hn)⟩
theorem any_snoc {l:List Nat}  {p:Nat->Bool}:(l++[n]).any p=(l.any p || p n):=sM
theorem zik {w0:World} {bs bg bt gs cs:Nat}  {goal:Nat->Bool}  {vst:Value} {sts:List (Stp × Value)}  {letter:Nat} {parent:Int} 
  (h:Sea w0 w bs bg bt gs N cs (.func (.func kg) #[] capg) S vst sts) (hA:zar w A m ns) (hN:∀ n∈ns,n<N) (hm:m<=1099511627776) (hst:sts.length<=1073741824)
  (hin:∀ args W,(callFunc kg args).run Tryz.prog W=.ok (.enter kg args) W) (hgoal:∀ W,Ext w0 W->∀ n,n<N->Calls Tryz.prog kg (#[.int .i64 (n:Nat)]++capg) W fun e W'=>e=.returned (.bool (goal n))∧Ext W W') :
  Calls Tryz.prog 255 #[parent,letter,.slice A m c,.pointer (some bs),.pointer (some bg),.pointer (some bt)] w (RetVisit w0 w bs bg bt gs N cs (.func (.func kg) #[] capg) S sts goal parent letter ns):=by
 have ax:=za (show S.length=N by have:=h.ds.1;rw [zbT] at this;omega);have ah:=za hA.1;have ad:=za hN;have s:=za hgoal;have X:=h.vs.lt;have G:bg<w.heap.size:=by obtain⟨t,hh⟩:=h.vg;exact hh.lt
 have h3:=h.vt.lt;have h4:=h.gs_lt;have h5:=za (fun b (hb:vst.ownBlock=some b)=>(h.dt.lt b hb).2);have h0:=h.ext.size;have B:=za (show ∀ k,k=gs->∀ cs,w.heap[k]?≠some (.cells cs 3 (0,0)) by
  rintro k rfl ar J;obtain⟨au,hh⟩:=h.gs_row;rw [hh] at J;injection J with J
  injection J with _ G
  exact absurd G dM)
 have Z:=za h.nd;clear hN hgoal
 go_enter Tryz.func255,Tryz.ntmps255
 go_wp2_with fail
 go_loopw [10,11,16] (fun v q i wr=>∃ k:Nat,k<=m∧i=.int .i64 k∧q=.bool ((vis S (ns.take k)).2.any goal)∧wr.ownsRow w.heap.size 3 1 v (vis S (ns.take k)).2.length (zac (vis S (ns.take k)).2)∧(vis S (ns.take k)).2.length<=k ∧
   Sea w0 wr bs bg bt gs N cs (.func (.func kg) #[] capg) (vis S (ns.take k)).1 vst sts∧Frm (fun b=>b=gs) w wr) (fun _ _ i _=>m - (intOf i).toNat)
 case atStart=>exact⟨0,eC _,rfl,rfl,World.ownsRow_nil _ _ _ _,eC _,h,jG _ _⟩
 case round =>
  clear h;obtain⟨k,Y,rfl,rfl,f,y,h,z⟩:=hrel;have C:=za (show (vis S (ns.take k)).1.length=N by have:=h.ds.1;rw [zbT] at this;omega)
  by_cases hlt:k<m
  ·obtain⟨g,o,n,rfl,hx,J⟩:=(hA.frm z B.out).at_ hlt;have ag:=ad.out n (dG hx.out);have U:=za (vis_take (S:=S) hx.out);generalize vis S (ns.take k)=st at *;obtain⟨T,l⟩:=st;simp only at f y h C;obtain⟨V,O⟩:∃ V,Hid (T[n]?=some V):=⟨_,dH (oH C.out)⟩;have Q:=za (show T.getD n true=V by rw [eE,O.out];rfl);have cS:=h.vs.cell;have cD:wr.cell? ⟨gs,n,none⟩=some (.bool V):=by rw [h.ds.cellAt n oM];simp [zak,O.out]
   have fD:=h.ds.frozenAt n;cases V
   ·have a:=za (U.out.trans (show visN (T,l) n=(T.set n true,l++[n]) by unfold visN;rw [if_neg (by rw [Q.out];decide)]));have af:=h.mark (n:=n);have L:Frm (fun b=>b=gs) w (wr.setCell ⟨gs,n,none⟩ (.bool true)):=z.cell rfl _;have am:=h4.2;have j:=zf f (Frm.setCell wr gs n (.bool true)) (fun b hv hS=>by have:=(f.lt b hv).1;omega);have ay:∃ tg,Blk wr bg tg #[.func (.func kg) #[] capg]:=h.vg;cases hfb:l.any goal
    all_goals
     have F:=za hfb;clear hfb;go_upto_region 8 with fail
     generalize wr.setCell ⟨gs,n,none⟩ (.bool true)=w2 at *;go_wp2_with (at_builtin;refine zW w _ rfl _ _ _ rfl 3 _ 1 8 Tryz.underlying110 zae rfl dM u10 l.length (zac l) _ _ rfl rfl L.size j rfl (by simp [Value.oneCell']) lM oM ?_;intro g5 cap5 w3 zkq hg3 hat3 hlt3;have D:Frm (fun b=>b=gs) w w3:=L.grown_ hg3 (fun k Y=>(j.lt k Y).1);have d:=af.far (Frm.ae hg3) (fun k Y=>(j.lt k Y).1) X G h3 h4.2 h5.out h0 (Z.out.frm D B.out);obtain⟨tg,I⟩:=d.vg;have aq:=I.cell)
    ·refine (s.out w3 d.ext n ag).mono (mQ fun w4 E=>?_);go_wp2_with fail
     go_roundw
     case rel=>exact⟨k+1,oM,gM,by rw [a.out,any_snoc,F.out];rfl,by rw [a.out];simpa [zac] using zh zkq E,by rw [a.out];simp;omega,by rw [a.out];exact d.aw E,D.ext E⟩
     case measure=>simp [intOf];omega
    ·go_roundw
     case rel=>exact⟨k+1,oM,gM,by rw [a.out,any_snoc,F.out];rfl,by rw [a.out];simpa [zac] using zkq,by rw [a.out];simp;omega,by rw [a.out];exact d,D⟩
     case measure=>simp [intOf];omega
   ·have a:=za (U.out.trans (show visN (T,l) n=(T,l) by unfold visN;rw [if_pos Q.out]));go_wp2_with fail
    go_roundw
    case rel=>exact⟨k+1,oM,gM,by rw [a.out],by rw [a.out];exact f,by rw [a.out];exact Nat.le_succ_of_le y,by rw [a.out];exact h,z⟩
    case measure=>simp [intOf];omega
  ·obtain rfl:k=m:=oM;have R:ns.take k=ns:=eF (oH ah.out);rw [R] at f y h ⊢;have ai:=z.size;clear R C;obtain⟨A',c',rfl⟩:=zi f;have H:=zar.own f;have u:=za (show ∀ W vst' sts',Sea w0 W bs bg bt gs N cs (.func (.func kg) #[] capg) (vis S ns).1 vst' sts'->w.heap.size<=W.heap.size->(((vis S ns).2=[]∧sts'=sts)∨((vis S ns).2≠[]∧∃ v,sts'=sts++[(⟨parent,letter,(vis S ns).2⟩,v)]))->RetVisit w0 w bs bg bt gs N cs (.func (.func kg) #[] capg) S sts goal parent letter ns (.returned (.bool ((vis S ns).2.any goal))) W from fun W vst' sts' X G h3=>⟨rfl,X.ext,G,vst',sts',X,h3⟩);clear s hin;generalize vis S ns=st at *;obtain⟨T,l⟩:=st;simp only at f y h H u ⊢;generalize l.any goal=aa at *;cases hfr0:l with
   |nil =>
    subst hfr0;go_wp2_with fail
    go_ret;exact u.out _ _ _ h ai (Or.inl sM)
   |cons x r =>
    have al:0<l.length:=by rw [hfr0];simp
    have M:=za (show l≠[] by rw [hfr0];simp);rw [← hfr0];clear hfr0;have cT:=h.vt.cell;go_wp2_with (at_builtin;refine zW w0 wr rfl _ _ _ rfl 272 _ 3 40 Tryz.underlying270 info_step rfl dM vst sts.length (zci sts) _ _ rfl rfl h.ext.size h.dt rfl (by simp [Value.oneCell']) lM oM ?_;intro g5 cap5 w3 zkq hg3 hat3 hlt3;obtain⟨q1,q2,q3⟩:=h.push (p:=⟨parent,letter,l⟩) zkq hg3 hat3 rfl H;have aA:=q1.out;have an:=hg3.size)
    go_ret;exact u.out _ _ _ q3 (by simp;omega) (Or.inr ⟨M.out,_,rfl⟩)
section
open Go.Lib Go.Sort
abbrev ziM (n:Int):Value:=.int .u8 n
set_option maxRecDepth 1000000 in
theorem rev_bytes (blk off cap:Nat) (d:Array Int) (w:World)(hH:Holds ziM w blk off d)(hsz:d.size<=9223372036854775807) :
  Calls Tryz.prog 293 #[.slice (some ⟨blk,off,none⟩) d.size cap] w fun e w'=>e=.returned (.tuple #[])∧∃ n,w'=putRow ziM (Sort.ahead w n) blk off d.reverse:=by
 have p:Tryz.prog.follows .mixedOrders=true:=kM
 go_enter Tryz.func293,Tryz.ntmps293
 go_wp2
 go_loopg [2,3] d.size (fun k s2 s3 wr=>∃ (i a:Nat) (j:Int) (b:Array Int) (n:Nat),s2=.int .i64 i∧s3=.int .i64 j∧((i:Int)<j->j=a∧a<d.size)∧(¬ (i:Int)<j->¬ i<a)∧a - i<=k ∧
  b.size=d.size∧wr=putRow ziM (Sort.ahead w n) blk off b∧reverseLoop i a b=reverseLoop 0 (d.size - 1) d)
 case atStart=>exact⟨0,d.size - 1,(d.size:Int) - 1,d,0,rfl,rfl,fun h=>⟨oM,oM⟩,fun h=>oM,oM,rfl,(putRow_self ziM w blk off d hH).symm,rfl⟩
 case round =>
  obtain⟨i,a,j,b,n,rfl,rfl,q,r,z,l,g,c⟩:=hrel
  by_cases hlt:(i:Int)<j
  ·obtain⟨rfl,t⟩:=q hlt;have o:i<a:=oM;have s:i<d.size:=oM;have f:Holds ziM wr blk off b:=by rw [g];exact holds_putRow ziM _ blk off d b (holds_ahead ziM w n blk off d hH) l
   obtain⟨u,x⟩:=f i oM;obtain⟨v,y⟩:=f a oM;have A:Aside (wr=putRow ziM (Sort.ahead w n) blk off b):=g;clear g f hH q r;go_wp2_with fail
   go_region_o
   go_wp2
   go_roundg (a - 1 - (i+1))
   case measure=>omega
   case rel =>
    rw [reverseLoop,if_pos o] at c;exact⟨i+1,a - 1,(a:Int) - 1,swp b i a,n+1,sM,rfl,fun h=>⟨oM,oM⟩,fun h=>oM,dI _,by rw [size_swp];exact l,
     swap_world ziM oM oM A.out (by first|rfl|simp [ziM,getElem!_pos,show a<b.size by omega]) (by first|rfl|simp [ziM,getElem!_pos,show i<b.size by omega]),c⟩
  ·have m:=r hlt;go_wp2
   go_end0
   refine⟨rfl,n,?_⟩;rw [reverseLoop,if_neg m] at c;rw [← Lib.reverseLoop_reverse,← c]
end
theorem zbA (hl:l<6) (w:World):Calls Tryz.prog 126 #[.int .i64 (l:Nat)] w fun e w'=>e=.returned (.int .u8 ((97+l:Nat):Nat))∧w=w':=by
 go_enter Tryz.func126,Tryz.ntmps126
 go_wp2;go_ret;exact⟨by rw [show (((97+l:Nat):Nat):Int)=97+(l:Int) by omega];rfl,rfl⟩
theorem rev_none (w:World):Calls Tryz.prog 293 #[()] w fun e w'=>e=.returned (.tuple #[])∧w'=w:=by
 go_enter Tryz.func293,Tryz.ntmps293
 go_wp2
 go_loopg [2,3] 0 (fun k s2 s3 wr=>s2=.int .i64 0∧s3=.int .i64 (-1)∧wr=w)
 case atStart=>exact⟨rfl,rfl,rfl⟩
 case round =>
  obtain⟨rfl,rfl,rfl⟩:=hrel;go_wp2
  go_end0
  exact⟨rfl,rfl⟩
theorem zjB:(Tryz.prog.info? 5).map (fun i=>(i.zero,i.size,i.bytes))=some (some (.int .u8 0),1,1):=kM
def lbs (o:List Nat):List Int:=o.map fun l=>((97+l:Nat):Int)
theorem lbs_reverse (o:List Nat):lbs o.reverse=(lbs o).reverse:=by simp [lbs]
def u8s (l:List Int):List Value:=l.map ziM
theorem Holds.own8 {e:TypeId} {l:List Int}(h:w.ownsRow base e 1 (.slice (some g) n cap) n (u8s l)):Sort.Holds ziM w g 0 l.toArray:=by
 intro j hj;have a:j<l.length:=by simpa using hj
 have b:=h.1;simp only [u8s,eT] at b;refine⟨?_,by rw [eO];exact h.frozenAt j⟩;rw [eO,h.cellAt j oM];simp [u8s,a]
theorem Ext.putRow {d:Array Int}(h:Ext w W)(hg:w.heap.size<=g):Ext w (Sort.putRow ziM (Sort.ahead W n) g off d):=by
 refine⟨h.os,h.tape,h.output,?_,fun k hk _=>?_⟩
 ·show w.heap.size<=(W.heap.modify g _).size;rw [Array.size_modify];exact h.size
 ·show (W.heap.modify g _)[k]?=_;rw [Array.getElem?_modify,if_neg oM];exact h.heap hk
theorem u8_row:Tryz.prog.underlying 22=some (.slice 5):=kM
theorem u8_und:Tryz.prog.underlying 5=some (.int .u8):=kM
theorem zjY:Tryz.prog.underlying 9=some .string:=kM
theorem Ext.put_some {d:Array Int}(h:Ext w W)(hg:w.heap.size<=g)(hw:∃ n,w'=Sort.putRow ziM (Sort.ahead W n) g off d):Ext w w':=by
 obtain⟨n,rfl⟩:=hw;exact h.putRow hg
theorem conv_rev {o:List Nat}(h:Sort.Holds ziM W g 0 (lbs o).toArray)(hw:∃ n,w'=Sort.putRow ziM (Sort.ahead W n) g 0 (lbs o).toArray.reverse) :
  (convert 22 9 (.slice (some g) o.length cap)).run Tryz.prog w'=.ok (.string (strOfNums (lbs o.reverse))) w':=by
 obtain⟨n,rfl⟩:=hw;have c:=Sort.holds_putRow ziM _ g 0 _ (lbs o).toArray.reverse (Sort.holds_ahead ziM W n g 0 _ h) sM;refine run_convert_bytes_arg (P:=Tryz.prog) _ 22 5 u8_row u8_und g 0 o.length cap (lbs o.reverse) (by simp [lbs]) (fun i hi=>?_) _ zjY;rw [(c i (by simpa [lbs] using hi)).1,lbs_reverse];have a:i<(lbs o).reverse.length:=by simpa [lbs] using hi
 have b:i<(lbs o).toArray.reverse.size:=by simpa [lbs] using hi
 rw [getElem!_pos (lbs o).toArray.reverse i b];simp [ziM,List.getD,dH a,-List.getElem?_reverse,-List.getElem_reverse]
theorem pathWord_any {sts:List (Stp × Value)} {ws:List (List Nat)}(h:w.ownsRow base 272 3 (.slice A n c) n (zci sts))(hn:sts.length=n)(h0:0<n)(hsz:n<=1073741824)
  (hw:∀ (k:Nat) (p:Stp) (v:Value),sts[k]?=some (p,v)->(p.parent = -1∧ws.getD k []=[])∨∃ a:Nat,p.parent=(a:Int)∧a<k∧p.letter<6∧ws.getD k []=ws.getD a []++[p.letter]) :
  Calls Tryz.prog 256 #[.slice A n c] w fun e w'=>e=.returned (.string (strOfNums (lbs (ws.getD (n - 1) []))))∧Ext w w':=by
 have L:=za hw;have J:=za hn;obtain⟨g,rfl⟩:∃ g,A=some ⟨g,0,none⟩:=by
  rcases h.2 with ⟨_,U⟩|⟨g,cap,z,hv,_⟩
  ·omega
  ·exact⟨g,by injection hv⟩
 have T:=(h.lt g rfl).2;have m:=za (fun (k:Nat) (p:Stp) (v:Value) (D:sts[k]?=some (p,v))=>(show w.cell? ⟨g,k*3,none⟩=some (.int .i64 p.parent)∧w.cell? ⟨g,k*3+1,none⟩=some (.int .i64 (p.letter:Nat)) by
  have V:=(List.getElem?_eq_some_iff.1 D).1;obtain⟨M,O,_⟩:=zic D;rw [h.cellAt _ oM,h.cellAt _ oM];exact⟨M,O⟩))
 clear hw hn h
 go_enter Tryz.func256,Tryz.ntmps256
 go_wp2
 go_loopw [3,4] (fun v i wr=>∃ (k:Nat) (o:List Nat),k<n∧i=.int .i64 k∧wr.ownsRow w.heap.size 5 1 v o.length (u8s (lbs o))∧Hid (ws.getD (n - 1) []=ws.getD k []++o.reverse)∧o.length+k<n∧Ext w wr)
  (fun _ i _=>(intOf i).toNat)
 case atStart=>exact⟨n - 1,[],oM,by first|go_num|(congr 1;omega),World.ownsRow_nil _ _ _ _,by simp [Hid],by simp;omega,dE _⟩
 case round =>
  obtain⟨k,o,D,rfl,j,b,Z,r⟩:=hrel;obtain⟨p,v,y⟩:∃ p v,sts[k]?=some (p,v):=⟨_,_,dH (oH J.out)⟩;obtain⟨F,G⟩:=m.out k p v y;have H:∀ W,Ext w W->W.cell? ⟨g,k*3,none⟩=some (.int .i64 p.parent):=fun W hW=>hW.aa F;have I:∀ W,Ext w W->W.cell? ⟨g,k*3+1,none⟩=some (.int .i64 (p.letter:Nat)):=fun W hW=>hW.aa G;obtain⟨ad,l,ns⟩:=p;dsimp only at H I;have X:(k:Int)<(n:Int):=oM;clear F G;rcases L.out k _ v y with ⟨d,f⟩|⟨a,d,S,s,f⟩
  ·dsimp only at d;subst d;have u:=za (show ws.getD (n - 1) []=o.reverse by rw [b.out,f];rfl);clear b f y;rcases j.2 with ⟨rfl,t⟩|⟨Q,cap,z,rfl,C,U,_⟩
   ·have Y:o=[]:=eJ t;subst Y;have B:∀ W,(convert 22 9 (.slice none 0 0)).run Tryz.prog W=.ok (.string ByteArray.empty) W:=fun W=>run_convert_bytes_nil (P:=Tryz.prog) W 22 5 u8_row u8_und _ _ _ zjY;go_wp2_with (go_at_call 293;refine (rev_none _).mono ?_;rintro e w' ⟨rfl,rfl⟩)
    go_ret;exact⟨by rw [u.out];rfl,r⟩
   ·have x:=rev_bytes Q 0 cap (lbs o).toArray wr (Holds.own8 j) (by simp [lbs];omega);rw [show (lbs o).toArray.size=o.length by simp [lbs]] at x;have R:=za (Holds.own8 j);go_wp2_with (go_at_call 293;refine x.mono (mQ fun w' q=>?_);have B:=conv_rev (cap:=cap) R.out q;have hx:=Ext.put_some r C q;clear q)
    go_ret;exact⟨by rw [u.out];rfl,hx⟩
  ·dsimp only at d f s;subst d;have E:=za (show ws.getD (n - 1) []=ws.getD a []++(o++[l]).reverse by rw [b.out,f];simp);clear b f y;go_wp2_with (first
    |(go_at_call 126;refine (zbA s _).mono ?_;rintro e w' ⟨rfl,rfl⟩)
    |(at_builtin;refine zO w wr rfl (.tmp 19) (.tmp 26) _ rfl 5 _ 1 1 Tryz.underlying22 zjB rfl dM u3 _ _ _ _ rfl rfl r j rfl (zjq _) lM oM ?_;intro v' w1 hext1 zko hg1 hat1))
   go_roundw
   case rel=>exact⟨a,o++[l],oM,rfl,by simpa [u8s,lbs] using zko,E,by simp;omega,aM⟩
   case measure=>simp [intOf];omega
def zP (w:World) (d:Nat->Nat->List Nat) (start:List Nat) (goal:Nat->Bool) (L:List Nat) (e:Ending) (w':World):Prop:=
 Ext w w'∧((∃ v,e=.returned (.tuple #[.string (strOfNums (lbs v)),.bool true])∧Found d start goal L v)∨(e=.returned (.tuple #[ByteArray.empty,.bool false])∧Lost d start goal L))
theorem Sea.start {w1:World}  {fg:Value} (hx:Ext (w.alloc (.cells #[fg] t)) w1)(hsz:(w.alloc (.cells #[fg] t)).heap.size<w1.heap.size)(hg:Blk (w.alloc (.cells #[fg] t)) w.heap.size t #[fg]) (zkf:w1.ownsRow w.heap.size 4 1 (.slice (some ⟨w.heap.size+1,0,none⟩) N N) N (zak (eQ N false))) :
  Sea w ((w1.alloc (.cells #[.slice (some ⟨w.heap.size+1,0,none⟩) N N] 25)).alloc (.cells #[()] 270)) w1.heap.size w.heap.size (w1.heap.size+1) (w.heap.size+1) N N fg (eQ N false) (.slice none 0 0) []:=by
 simp only [World.size_alloc] at hsz;have c:Ext w w1:=((dE w).alloc _).trans hx;have f:=eX w1 25 #[.slice (some ⟨w.heap.size+1,0,none⟩) N N];have d:=eX (w1.alloc (.cells #[.slice (some ⟨w.heap.size+1,0,none⟩) N N] 25)) 270 #[()];have a:Ext w1 ((w1.alloc (.cells #[.slice (some ⟨w.heap.size+1,0,none⟩) N N] 25)).alloc (.cells #[()] 270)):=((dE w1).alloc _).alloc _;refine⟨c.trans a,f.ext ((dE _).alloc _),zh zkf a,⟨t,hg.ext (hx.trans a)⟩,by simpa using d,World.ownsRow_nil _ _ _ _,fun k p v hk=>by simp at hk,oM,dI _,oM,oM,oM,fun b hb=>by simp [Value.ownBlock] at hb⟩
theorem sts_add {sts sts':List (Stp × Value)} {a:Int}  (h:(fr=[]∧sts'=sts)∨(fr≠[]∧∃ v,sts'=sts++[(⟨a,l,fr⟩,v)])):sts'.map Prod.fst=addS (sts.map Prod.fst) a l fr:=by
 rcases h with ⟨b,rfl⟩|⟨b,v,rfl⟩
 ·rw [addS,if_pos b]
 ·rw [addS,if_neg b];simp
theorem Bfs.letters {d:Nat->Nat->List Nat} {start:List Nat} {goal:Nat->Bool}    {st:List Stp} {ws:List (List Nat)} (h:Bfs d start goal L N S st ws i j):∀ (m k:Nat),k<=m->k<st.length->∀ l∈ws.getD k [],l∈L:=by
 intro m
 induction m with
 |zero =>
  intro k hk hlt l hl;obtain rfl:k=0:=oM;rw [h.zero _ (dH hlt)] at hl;cases hl
 |succ m ih =>
  intro k hk hlt l hl;rcases h.word k _ (dH hlt) with ⟨_,_,e⟩|⟨a,b,_,f,_,g,e⟩
  ·rw [e] at hl;cases hl
  ·rw [e] at hl;rcases List.mem_append.1 hl with c|c
   ·exact ih a oM oM l c
   ·rw [List.mem_singleton.1 c];exact dG g
theorem Bfs.words {d:Nat->Nat->List Nat} {start:List Nat} {goal:Nat->Bool}    {st:List Stp} {ws:List (List Nat)} (h:Bfs d start goal L N S st ws i j)(hL:Rise L) {a:Nat} (ha:a<st.length)(hl:l∈L) (k:Nat) (p:Stp)(hp:(st++[⟨a,l,fr⟩])[k]?=some p) :
  (p.parent = -1∧(ws++[ws.getD a []++[l]]).getD k []=[])∨∃ b:Nat,p.parent=(b:Int)∧b<k∧p.letter<6∧(ws++[ws.getD a []++[l]]).getD k []=(ws++[ws.getD a []++[l]]).getD b []++[p.letter]:=by
 rcases fQ k st.length with f|f|f
 ·rw [eH f] at hp;rw [zfN _ (by rw [h.wl];exact f)];rcases h.word k p hp with ⟨_,g,m⟩|⟨b,c,g,m,_,n,o⟩
  ·exact Or.inl ⟨g,m⟩
  ·exact Or.inr ⟨b,g,m,hL.1 _ (dG n),by rw [zfN _ (by rw [h.wl];omega)];exact o⟩
 ·rw [f,eN (dI _),Nat.sub_self] at hp;obtain rfl:=Option.some.inj hp;refine Or.inr ⟨a,rfl,oM,hL.1 _ hl,?_⟩;rw [f,← h.wl,zhB,zfN _ (by rw [h.wl];exact ha)]
 ·rw [List.getElem?_eq_none (by simp;omega)] at hp;cases hp
theorem Frm.out {S:Nat->Prop} {c:World}(h:Frm T a b) (k:Frm S b c)(hS:∀ x,S x->T x):Frm T a c:=h.trans (k.mono fun x _ hx=>hS x hx)
set_option maxHeartbeats 16000000 in
theorem zfM {kn cL:Nat} {AL:Option Addr} {capn:Array Value} {goal:Nat->Bool} {d:Nat->Nat->List Nat} {start:List Nat} {D:Nat}
  (hA:zar w A m start) (hstart:∀ n∈start,n<N) (hm:m<=1099511627776) (hL:zar w AL q L) (hrise:Rise L) (hN:N<=16777216) (hD:D<=4096)
  (hinn:∀ args W,(callFunc kn args).run Tryz.prog W=.ok (.enter kn args) W) (hin:∀ args W,(callFunc kg args).run Tryz.prog W=.ok (.enter kg args) W)
  (hgoal:∀ W,Ext w W->∀ n,n<N->Calls Tryz.prog kg (#[.int .i64 (n:Nat)]++capg) W fun e W'=>e=.returned (.bool (goal n))∧Ext W W')
  (hd:∀ n l,n<N->l∈L->(d n l).length<=D∧∀ x∈d n l,x<N)
  (hnext:∀ W,Ext w W->∀ n l,n<N->l∈L->∀ (base:Nat) (A:Option Addr) (m c:Nat) (xs:List Nat),w.heap.size<=base->base<=W.heap.size->m<=1099511627776->W.ownsRow base 3 1 (.slice A m c) m (zac xs) ->
   Calls Tryz.prog kn (#[.int .i64 (n:Nat),.int .i64 (l:Nat),.slice A m c]++capn) W fun e W'=>∃ A' c',e=.returned (.slice A' (xs++d n l).length c')∧W'.ownsRow base 3 1 (.slice A' (xs++d n l).length c') (xs++d n l).length (zac (xs++d n l))∧Frm (fun k=>(Value.slice A m c).ownBlock=some k) W W') :
  Calls Tryz.prog 175 #[.int .i64 (N:Nat),.slice A m c,.slice AL q cL,.func (.func kn) #[] capn,.func (.func kg) #[] capg] w (zP w d start goal L):=by
 have HA:=za hA;have o:=za hstart;have M:=za hgoal;have al:=za hnext;have Hd:=za hd;have bF:q<=9223372036854775807:=hL.2.1;clear hA hstart hgoal hnext hd
 go_enter Tryz.func175,Tryz.ntmps175
 have aI:Ext w (w.alloc (.cells #[.func (.func kg) #[] capg] 126)):=(dE w).alloc _;have z:=za (eX w 126 #[.func (.func kg) #[] capg]);go_upto_region 4 with (at_make;refine zbS w _ rfl _ _ 25 rfl 4 _ 1 1 Tryz.underlying25 zbh _ _ N rfl rfl aI oM lM ?_;intro w1 hext1 zko hx1 hsz1)
 have aO:w1.ownsRow w.heap.size 4 1 (.slice (some ⟨w.heap.size+1,0,none⟩) N N) N (zak (eQ N false)):=by
  have h:=zko;rw [World.size_alloc] at h;simpa [zak,Value.cells,toList_madeCells_one] using h
 have ah:=Sea.start hx1 hsz1 z.out aO;obtain⟨w2,U0⟩:∃ x,Hid ((w1.alloc (.cells #[.slice (some ⟨w.heap.size+1,0,none⟩) N N] 25)).alloc (.cells #[()] 270)=x):=⟨_,za rfl⟩;have aJ:Ext w w2:=((hext1.alloc _).alloc _).trans (Ext.eq_ U0.out);clear zko aO hx1 hsz1 z hext1 aI;generalize w1.heap.size+1=bt at *;generalize w1.heap.size=bs at *;rw [U0.out] at *;have au:=zho (eQ N false) start (fun n Q=>by have:=o.out n Q;simpa using this);cases hg:(vis (eQ N false) start).2.any goal
 ·have Hg:=za hg;have G:=za (Bfs.begin_ (d:=d) (L:=L) (goal:=goal) o.out (fun x J=>by
   cases z:goal x
   ·rfl
   ·rw [List.any_eq_true.2 ⟨x,J,z⟩] at hg;cases hg))
  have hC:=za ((Cnt.nil N).add (-1) 0 start);clear hg au;go_wp2_with (go_at_call 255;refine (zik (letter:=0) (parent := -1) ah (HA.out.ext aJ) o.out hm sM hin M.out).mono ?_;rintro e w3 ⟨rfl,av,aG,F,a,X,f⟩;rw [Hg.out];have Y:=za (sts_add f);clear f)
  go_loopw [15,17,18,20] (fun i l r x wr=>∃ (k:Nat) (S:List Bool) (F:Value) (a:List (Stp × Value)) (ws:List (List Nat)),i=.int .i64 k∧k<=a.length∧a.length<=N∧Sea w wr bs w.heap.size bt (w.heap.size+1) N N (.func (.func kg) #[] capg) S F a∧Hid (Bfs d start goal L N S (a.map Prod.fst) ws k 0)∧Hid (Cnt S (a.map Prod.fst)))
   (fun i _ _ _ _=>N+1 - (intOf i).toNat)
  case atStart =>
   simp only [List.map_nil] at Y;have H:=G.out;have O:=hC.out;rw [← Y.out] at H O;exact⟨0,_,F,a,_,rfl,eC _,by have:=O.steps H.some_;rw [H.len] at this;simpa using this,X,za H,za O⟩
  case round =>
   clear X Y G hC av aG;clear F a;obtain⟨k,S,F,a,ws,rfl,hk,af,E,G,hC⟩:=hrel;obtain⟨Av,cv,rfl⟩:=zi E.dt;have cT:=E.vt.cell 0
   by_cases hlt:k<a.length
   ·have am:((k:Int)<(a.length:Int)):=oM;go_wp2
    go_loopw [17,18,20,35] (fun _ _ _ i2 wi=>∃ (j:Nat) (S:List Bool) (F:Value) (a:List (Stp × Value)) (ws:List (List Nat)),i2=.int .i64 j∧j<=q∧k<a.length∧a.length<=N∧Sea w wi bs w.heap.size bt (w.heap.size+1) N N (.func (.func kg) #[] capg) S F a∧Hid (Bfs d start goal L N S (a.map Prod.fst) ws k j)∧Hid (Cnt S (a.map Prod.fst)))
     (fun _ _ _ i2 _=>q - (intOf i2).toNat)
    case atStart=>exact⟨0,S,_,a,ws,rfl,eC _,hlt,af,E,G,hC⟩
    case round =>
     clear E G hC cT hlt am hk af;rename World=>wi
     obtain⟨j,S,F,a,ws,rfl,hj,hk,af,E,G,hC⟩:=hrel
     by_cases hjq:j<q
     ·obtain⟨gl,ol,l,rfl,aw,aD⟩:=hL.at_ hjq;have cL:wi.cell? ⟨gl,ol+j,none⟩=some (.int .i64 (l:Nat)):=E.ext.aa aD;have R:=za (dG aw.out);obtain⟨⟨⟨pp,pl,I⟩,vk⟩,ae⟩:∃ x,Hid (a[k]?=some x):=⟨_,dH hk⟩;obtain⟨Ak,ck,rfl,T⟩:=E.nd k _ vk ae.out;dsimp only at T ae;have V:=za (show (a.map Prod.fst)[k]?=some ⟨pp,pl,I⟩ by rw [eM,ae.out];rfl);have aq:=List.length_pos_iff.2 (G.out.some_ k _ V.out);have aW:I.length<=N:=by have:=hC.out.nodes V.out;rw [G.out.len] at this;exact this
      have s:=za (G.out.small k _ V.out);dsimp only at aq s;have cV:wi.cell? bt=some F:=E.vt.cell 0;obtain⟨Av,cv,rfl⟩:=zi E.dt;obtain⟨gv,rfl⟩:∃ gv,Av=some ⟨gv,0,none⟩:=by
       rcases E.dt.2 with ⟨_,hh⟩|⟨g,bq,bu,hv,_⟩
       ·omega
       ·exact⟨g,by injection hv⟩
      obtain⟨mk,ap⟩:∃ mk,Hid (mk=I.length):=⟨_,rfl⟩;have cK:wi.cell? ⟨gv,k*3+2,none⟩=some (.slice Ak mk ck):=by
       rw [E.dt.cellAt _ oM,ap.out];exact (zic ae.out).2.2
      rw [← ap.out] at T aq aW;obtain⟨gk,ok,_,rfl,_,_⟩:=T.at_ aq;have aQ:=za T;have h1:=E.vs.lt;have h2:w.heap.size<wi.heap.size:=by obtain⟨t,hh⟩:=E.vg;exact hh.lt
      have h3:=E.vt.lt;have h4:=E.gs_lt.2;have h0:=E.ext.size;have az:=za (show ∀ b,wi.heap.size<=b->∀ cs,wi.heap[b]?≠some (.cells cs 3 (0,0)) from fun b hb cs hc=>by
       have:=(Array.getElem?_eq_some_iff.1 hc).1;omega)
      have bG:=(E.dt.lt gv rfl).2;have ay:=za (fun W (hW:Frm (fun b=>wi.heap.size<=b) wi W)=>E.far hW (fun _ h=>h) h1 h2 h3 h4 (fun b hb=>by have:gv=b:=(by simpa [Value.ownBlock] using hb);omega) h0 (E.nd.frm hW az.out));have bD:(k:Int)<(a.length:Int):=oM;have bC:(j:Int)<(q:Int):=oM;clear T aD E h1 h3 h4;go_wp2_with fail
      go_loopw [18,20,45] (fun v _ i3 wr=>∃ i:Nat,i3=.int .i64 i∧i<=mk∧wr.ownsRow wi.heap.size 3 1 v (reach d l (I.take i)).length (zac (reach d l (I.take i)))∧Frm (fun b=>wi.heap.size<=b) wi wr) (fun _ _ i3 _=>mk - (intOf i3).toNat)
      case atStart=>exact⟨0,rfl,eC _,World.ownsRow_nil _ _ _ _,jG _ _⟩
      case round =>
       obtain⟨i,rfl,hi,aa,ad⟩:=hrel;have aC:=za (ay.out wr ad);have a0:=ad.size;have aZ:(reach d l (I.take i)).length<=1099511627776 - 4096:=by
        have e1:=reach_len (d:=d) (l:=l) (D:=D) (ns:=I.take i) (fun n Q=>(Hd.out n l (s.out n (iF Q)) R.out).1);have e2:=fU (show (I.take i).length<=16777216 by rw [fL];omega) hD;omega
       obtain⟨A0,c0,rfl⟩:=zi aa;clear cL cV cK
       by_cases hil:i<mk
       ·obtain⟨g',o',n,aB,Q,cN⟩:=(aQ.out.frm ad az.out).at_ hil;obtain⟨rfl,rfl⟩:gk=g'∧ok=o':=by injection aB with e;injection e with e1 e2;exact⟨e1,e2⟩
        have aF:=s.out n (dG Q.out);have aX:=za (al.out wr aC.out.ext n l aF R.out wi.heap.size A0 _ c0 _ h0 a0 oM aa);clear aB;go_wp2_with fail
        refine aX.out.mono ?_;rintro e w4 ⟨A',c',rfl,U,aV⟩;have aE:=za (fun b (hb:(Value.slice A0 (reach d l (I.take i)).length c0).ownBlock=some b)=>(aa.lt b hb).1);go_wp2_with fail
        go_roundw
        case rel=>exact⟨i+1,gM,oM,by rw [reach_take Q.out];rw [eK] at U ⊢;exact U,ad.out aV aE.out⟩
        case measure=>simp [intOf];omega
       ·obtain rfl:i=mk:=oM;have a1:I.take i=I:=eF (oH ap.out);rw [a1] at aa aZ ⊢;have ar:=za (fun x (J:x∈reach d l I)=>by
         obtain⟨n,Q,J⟩:=zhM.1 J;exact (Hd.out n l (s.out n Q) R.out).2 x J)
        have ai:=za (zik (letter:=l) (parent:=(k:Int)) (c:=c0) aC.out (zar.own aa) ar.out oM oM hin M.out);cases hg:(vis S (reach d l I)).2.any goal
        ·have Hg:=za hg;have H:=za (G.out.step hrise V.out aw.out (fun x=>zhM) ar.out (fun x J=>by
          cases z:goal x
          ·rfl
          ·rw [List.any_eq_true.2 ⟨x,J,z⟩] at hg;cases hg))
         have O:=za (hC.out.add (k:Int) l (reach d l I));clear hg;go_wp2_with fail
         refine ai.out.mono ?_;rintro e w4 ⟨rfl,aK,aH,aj,C,B,f⟩;rw [Hg.out];have Y:=za (sts_add f);have bh:a.length<=C.length:=by
          rcases f with ⟨_,rfl⟩|⟨_,v,rfl⟩<;>simp
         rw [← Y.out] at H O;go_wp2_with fail
         go_roundw
         case rel=>exact⟨j+1,_,aj,C,_,gM,oM,oM,(by have:=O.out.steps H.out.some_;rw [H.out.len] at this;simpa using this),B,H,O⟩
         case measure=>simp [intOf];omega
        ·have Hg:=za hg;obtain⟨x,J,z⟩:=List.any_eq_true.1 hg;have ag:=((zho S (reach d l I) (fun n Q=>by rw [G.out.len];exact ar.out n Q)).2.2 x).1 J;obtain⟨n,Q,aL⟩:=zhM.1 ag.1;have hF:=za (show Found d start goal L (ws.getD k []++[l]) from ⟨fun m hm=>(by
          rcases List.mem_append.1 hm with h|h
          ·exact G.out.letters k k (dI _) (by simpa using hk) m h
          ·rw [List.mem_singleton.1 h];exact R.out),⟨x,(G.out.goes k _ V.out n Q).snoc aL,z⟩,fun u hu hlt y hy=>G.out.found hrise (by simpa using hk) aw.out hu hlt hy⟩)
         clear hg z ag aL;go_wp2_with fail
         refine ai.out.mono ?_;rintro e w4 ⟨rfl,aK,aH,aj,C,B,f⟩;rw [Hg.out];obtain⟨_,v4,Z⟩:(vis S (reach d l I)).2≠[]∧∃ v,C=a++[(⟨(k:Int),l,(vis S (reach d l I)).2⟩,v)]:=by
          rcases f with ⟨h,_⟩|h
          ·rw [h] at J;cases J
          ·exact h
         have an:C.length=a.length+1:=by rw [Z];simp
         obtain⟨A4,c4,rfl⟩:=zi B.dt;have bp:=B.vt.cell 0;have aY:=za (show Calls Tryz.prog 256 #[.slice A4 C.length c4] w4 fun e w'=>e=.returned (.string (strOfNums (lbs (ws.getD k []++[l]))))∧Ext w4 w' by
          have aN:=pathWord_any (ws:=ws++[ws.getD k []++[l]]) B.dt rfl oM oM (fun i p v hi=>by
           have hm:(C.map Prod.fst)[i]?=some p:=by rw [eM,hi];rfl
           rw [Z,fO] at hm;exact G.out.words hrise (by simpa using hk) R.out i p hm)
          rw [an,Nat.add_sub_cancel,show a.length=ws.length by have:=G.out.wl;simpa using this.symm,zhB] at aN;rw [an,show a.length=ws.length by have:=G.out.wl;simpa using this.symm];exact aN)
         clear J f Z an;go_wp2_with fail
         refine aY.out.mono (mQ fun w5 a3=>?_);go_wp2_with fail
         go_ret2;exact⟨aK.trans a3,Or.inl ⟨_,rfl,hF.out⟩⟩
     ·obtain rfl:j=q:=oM;have bE:=hL.1;have aT:=za (G.out.row oM);go_wp2;go_roundw
      case rel=>exact⟨k+1,S,F,a,ws,gM,oM,af,E,aT,hC⟩
      case measure=>simp [intOf];omega
   ·obtain rfl:k=a.length:=oM;have ao:=za (show Lost d start goal L from fun v hv x J=>G.out.none sM hv J);have ag:=E.ext;go_wp2;go_ret2;exact⟨ag,Or.inr ⟨rfl,ao.out⟩⟩
 ·have Hg:=za hg;obtain⟨x,J,z⟩:=List.any_eq_true.1 hg;have hF:=za (show Found d start goal L [] from ⟨fun l hl=>(by cases hl),⟨x,.nil ((au.2.2 x).1 J).1,z⟩,fun u _ hu=>by rw [zgi] at hu;omega⟩);clear hg au;go_wp2_with (go_at_call 255;refine (zik (letter:=0) (parent := -1) ah (HA.out.ext aJ) o.out hm sM hin M.out).mono ?_;rintro e w' ⟨rfl,av,_⟩;rw [Hg.out])
  go_ret2;exact⟨av,Or.inl ⟨[],rfl,hF.out⟩⟩
theorem stepB_low (hf:Few k0 es)(hb:x.testBit j=true)(hl:∀ i,i<j->x.testBit i=false) (l:Int):zcj es x l=succ es j l|||zcj es (x - 2 ^ j) l:=by
 apply gY;intro k;rw [Nat.testBit_or,Bool.eq_iff_iff,Bool.or_eq_true,zdV,zdV,zcU];constructor
 ·rintro ⟨e,b,⟨c,a⟩,d⟩;have:=hf e b
  by_cases e1:e.fr.toNat=j
  ·exact Or.inl ⟨e,b,⟨oM,c⟩,d⟩
  ·refine Or.inr ⟨e,b,⟨c,?_⟩,d⟩;rw [zdh hb hl,a];simp [e1]
 ·rintro (⟨e,b,⟨c,a⟩,d⟩|⟨e,b,⟨c,a⟩,d⟩)
  ·exact⟨e,b,⟨a,by rw [c];exact hb⟩,d⟩
  ·rw [zdh hb hl] at a;simp only [eD] at a;exact⟨e,b,⟨c,a.1⟩,d⟩
theorem stepB_zero (es:List Edg) (l:Int):zcj es 0 l=0:=by
 apply gY;intro k;rw [Nat.zero_testBit,fT];intro h;obtain⟨e,_,⟨_,a⟩,_⟩:=(zdV es 0 l k).1 h;simp at a
theorem impl_step {bm set:Nat} (hm:MovAt w bm es)(hT:Tab w)(hset:set<2 ^ 16)(hl:l<6)(hf:Few k0 es)(hk0:k0<=16) :
  Calls Tryz.prog 191 #[.pointer (some bm),set,l] w fun e w'=>e=.returned (.int .i64 (zcj es set l:Nat))∧Ext w w':=by
 have g:set<65536:=by simpa using hset
 have D:=za hf;clear hf
 go_enter Tryz.func191,Tryz.ntmps191
 go_wp2
 go_loopw [1,7] (fun s v wr=>∃ x:Nat,s=.int .i64 x∧x<65536∧∃ y:Nat,v=.int .i64 y∧Sm y∧Hid (zcj es set l=y|||zcj es x l)∧Ext w wr) (fun s _ _=>(intOf s).toNat)
 case atStart=>exact⟨set,rfl,g,0,rfl,tM,by simp [Hid],dE _⟩
 case round =>
  obtain⟨x,rfl,Y,y,rfl,L,r,c⟩:=hrel
  by_cases h0:x=0
  ·subst h0;go_wp2;go_ret;have F:=r.out;rw [stepB_zero,Nat.or_zero] at F;exact⟨zap (by rw [F]),c⟩
  ·have q:Sm x:=tM;obtain⟨j,I,J,k,m,d,B⟩:=lowest h0 q;have i:j<16:=by
    rcases Nat.lt_or_ge j 16 with h|h
    ·exact h
    ·have:=e6 (n:=2) oM h;omega
   have X:=Nat.two_pow_pos j;have o:=za (stepB_low D.out k m l);have E:=hm j l i hl;have U:∀ W,Ext wr W->W.cell? ⟨bm,j*6+l,none⟩=some (.int .i64 (succ es j l:Nat)):=fun W hW=>(c.trans hW).aa E;have t:=za (fun W (hW:Ext wr W)=>hT.ext (c.trans hW));have M:=succ_sm D.out hk0 j l;have O:=za (zbb L M);have R:((x:Int) != 0)=true:=by simp;omega
   have G:=za (zbZ (a:=x) (b:=x - 1) q tM);have H:=za (show ((x:Int) - 1)=((x - 1:Nat):Int) by omega);have Z:IntKind.u64.wrap (x:Int)=x:=by rw [IntKind.wrap_u64];omega
   have C:=za (fun W (hW:Ext wr W)=>(show Calls Tryz.prog 229 #[.int .u64 x] W fun e w'=>e=.returned (.int .i64 j)∧W=w' by rw [← I];exact tz x oM h0 W (t.out W hW)));have S:=dE wr;have T:x - 2 ^ j<x:=oM;have p:x&&&(x - 1)=x - 2 ^ j:=d;have f:=za p;have Q:(l:Int)<6:=oM;have u:(j:Int)<16:=oM;clear I k m d p h0 B E;generalize succ es j l=z at *;go_wp2_with fail
   go_region_held3 (fun W=>Ext wr W) (first|assumption|(refine Ext.drew ?_;assumption)|(refine Ext.trans ?_ aM;assumption)|(refine Ext.trans ?_ aM;refine Ext.drew ?_;assumption)) ((go_at_call 229;refine (C.out _ ?_).mono ?_;(first|assumption|(refine Ext.drew ?_;assumption));rintro e w' ⟨rfl,rfl⟩))
   go_wp2_with fail
   go_roundw
   case rel=>exact⟨x&&&(x - 1),by rw [H.out,G.out],by rw [f.out];omega,y|||z,by rw [O.out],L.or M,by unfold Hid;rw [r.out,o.out,f.out,Nat.or_assoc],c.trans aM⟩
   case measure =>
    have:=G.out;rw [← H.out] at this;have V:=f.out;simp [intOf];omega
theorem zgG (a:Nat):Rise (letters a 6):=by
 refine⟨fun l hl=>(zef.1 hl).1,fun i j x y hx hy hij=>?_⟩;have b:(letters a 6).Pairwise (·<·):=List.Pairwise.filter _ kT;obtain⟨c,rfl⟩:=List.getElem?_eq_some_iff.1 hx;obtain⟨d,rfl⟩:=List.getElem?_eq_some_iff.1 hy;exact List.pairwise_iff_getElem.1 b i j c d hij
theorem Blk.ne {a b:Nat} {u:TypeId} {ds:Array Value}(h:Blk w a t cs)(h':Blk w b u ds)(ht:t≠u):a≠b:=by
 rintro rfl;unfold Blk at h h';rw [h] at h';injection h' with h'
 injection h' with _ h2
 exact ht h2
theorem zdr (h:Blk w g 3 #[.int .i64 (x:Nat)]):zar w (some ⟨g,0,none⟩) 1 [x]:=by
 refine⟨rfl,oM,fun _=>⟨g,0,_,rfl,h,fun j y hj=>?_⟩⟩;cases j with
 |zero =>
  obtain rfl:=Option.some.inj hj;rw [h.cell];rfl
 |succ j=>simp at hj
theorem rising_pw :Rising es↔es.Pairwise (fun x y=>ltE x y=true):=by
 rw [List.pairwise_iff_getElem];constructor
 ·intro h i j hi hj hij;exact h i j _ _ (dH hi) (dH hj) hij
 ·intro h a b x y hx hy hab;obtain⟨c,rfl⟩:=List.getElem?_eq_some_iff.1 hx;obtain⟨d,rfl⟩:=List.getElem?_eq_some_iff.1 hy;exact h a b c d hab
theorem ziV (a k:Nat):(letters a k).Pairwise (·<·):=List.Pairwise.filter _ kT
theorem asc_ext:∀ {l m:List Nat},l.Pairwise (·<·)->m.Pairwise (·<·)->(∀ x,x∈l↔x∈m)->l=m:=by
 intro l
 induction l with
 |nil =>
  intro m _ _ h;cases m with
  |nil=>rfl
  |cons y s=>exact absurd ((h y).2 sM) sM
 |cons x r ih =>
  intro m hl hm h;cases m with
  |nil=>exact absurd ((h x).1 sM) sM
  |cons y s =>
   rw [List.pairwise_cons] at hl hm;have e:x=y:=by
    have a:=(h x).1 sM;have b:=(h y).2 sM;rcases List.mem_cons.1 a with a|a
    ·exact a
    ·rcases List.mem_cons.1 b with b|b
     ·exact b.symm
     ·have:=hl.1 y b;have:=hm.1 x a;omega
   subst e;rw [ih hl.2 hm.2 fun z=>?_];have c:=h z;simp only [List.mem_cons] at c;constructor
   ·intro a;have:=hl.1 z a;rcases c.1 (Or.inr a) with b|b
    ·omega
    ·exact b
   ·intro a;have:=hm.1 z a;rcases c.2 (Or.inr a) with b|b
    ·omega
    ·exact b
def chE (es:List Edg) (q l:Nat):List Nat:=(es.filter fun e=>e.fr==(q:Int)&&e.le==(l:Int)).map fun e=>e.ta.toNat
theorem chE_cho (hf:Few p es)(hp:p<=16)(hr:Rising es) (q l:Nat):chE es q l=letters (succ es q l) 32:=by
 refine asc_ext ?_ (ziV _ _) fun x=>?_
 ·have c:=rising_pw.1 hr;rw [chE,List.pairwise_map,List.pairwise_filter];refine c.imp_of_mem fun {a b} ha hb hab d h3=>?_;simp only [eD,beq_iff_eq] at d h3;have:=zjF.1 hab;have:=hf a ha;have:=hf b hb;omega
 ·rw [zD,zcU,chE,List.mem_map];simp only [List.mem_filter,eD,beq_iff_eq];constructor
  ·rintro ⟨e,⟨c,d⟩,rfl⟩;have:=hf e c;exact⟨oM,e,c,d,rfl⟩
  ·rintro ⟨_,e,c,d,rfl⟩;exact⟨e,⟨c,d⟩,rfl⟩
theorem chE_take {x:Edg}(h:es[k]?=some x) (q l:Nat):chE (es.take (k+1)) q l=chE (es.take k) q l++if x.fr=(q:Int)∧x.le=(l:Int) then [x.ta.toNat] else []:=by
 rw [eG,h];unfold chE;rw [e8,List.filter_append,fO]
 congr 1
 by_cases hc:x.fr=(q:Int)∧x.le=(l:Int)
 ·rw [if_pos hc];simp [hc]
 ·rw [if_neg hc];have:(x.fr==(q:Int)&&x.le==(l:Int))=false:=by
   rw [fT];intro h;simp only [eD,beq_iff_eq] at h;exact hc h
  simp [this]
theorem chE_len (hf:Few p es)(hp:p<=16)(hr:Rising es) (q l k:Nat):(chE (es.take k) q l).length<=16:=by
 have a:(chE (es.take k) q l).Sublist (chE es q l):=((List.take_sublist k es).filter _).map _;refine eI a.length_le (eI (zhO (p:=p) ?_ ?_) hp)
 ·rw [chE_cho hf hp hr];exact zee _ _
 ·intro x hx;obtain⟨e,b,rfl⟩:=List.mem_map.1 hx;have:=hf e (List.mem_filter.1 b).1;omega
theorem ret_one {y:Nat}(hx:Ext w W)(hb:Blk W g 3 #[.int .i64 (y:Nat)])(hg:w.heap.size<=g):zbI w [y] (.returned (.slice (some g) 1 1)) W:=
 ⟨some ⟨g,0,none⟩,1,rfl,⟨rfl,.inr ⟨g,1,_,rfl,hg,hb,by simp [zac,maxLen]⟩⟩,hx⟩
theorem ziz {L:Int}  {us:List Aut}   {m:Mem}(h:zfD w PA pn AA an ss us)(hok:zdZ ss us)(hm:(zbl ss us)[i]?=some m)(hq:q<m.1)(hl:l<6) :
  Calls Tryz.prog 298 #[.agg #[.slice PA pn pc,.slice AA an ac,sv,L,K,G],i,q,l] w (zbI w (m.2 q l)):=by
 have d:Ext w (w.alloc (.cells #[.slice PA pn pc,.slice AA an ac,sv,L,K,G] 185)):=(dE w).alloc _;have H:=eX w 185 #[.slice PA pn pc,.slice AA an ac,sv,L,K,G];have HN:=za (fun W (hW:Ext w W)=>h.ext hW);have r:Hid (pn=ss.length):=by obtain⟨_,_,h1⟩:=h.sys;exact h1.1
 have Q:Hid (an=us.length):=by obtain⟨_,_,h1⟩:=h.aut;exact h1.1
 have a3:pn<=3:=by rw [r.out];exact hok.few
 have aY:an<=2:=by rw [Q.out];exact hok.few'
 by_cases hip:i<pn
 ·have V:ss[i]?=some (ss[i]'(by rw [← r.out];exact hip)):=dH _;generalize ss[i]'(by rw [← r.out];exact hip)=s at V;obtain rfl:m=zdQ s:=by
   rw [zbl,eH (by simp;have:=r.out;omega),eM,V] at hm;exact (Option.some.inj hm).symm
  have hv:=hok.sys s (dG V);obtain⟨F,aA,_,C⟩:=zgg.1 hv;obtain⟨p,hp,a2,T,hf⟩:=zcE hv;obtain⟨J,E⟩:∃ J:Nat,Hid (s.al=J):=⟨s.al.toNat,by unfold Hid;omega⟩;have X:Sm J:=by have:=E.out;unfold Sm;omega
  have U:=za (show (zdQ s).2 q l=if J.testBit l then chE s.edges q l else [q] by
   rw [chE_cho hf T C];simp only [zdQ,cho];rw [E.out,Int.toNat_natCast])
  have Hs:=za V;have ai:=za (chE_len hf T C q l);have Hf:=za hf;clear V hv F aA C hf hm hok h hq;rw [U.out];cases hb:J.testBit l
  ·have Hb:=za hb;clear hb
   go_enter Tryz.func298,Tryz.ntmps298
   go_upto_region 1 with fail
   generalize w.alloc _=y at *;have c0:=H.cell;obtain⟨lo,hi,D⟩:=(HN.out y d).sys;obtain⟨b,o,s',B,n,c',rfl,_,_,M,O,e1,e2,u⟩:=D.sys hip;obtain rfl:s=s':=by have:=M.out;rw [Hs.out] at this;exact Option.some.inj this
   rw [E.out] at O;clear e1 D u;go_wp2_with (go_at_call 143;with_reducible refine (zaq J l X _ oM).mono ?_;rw [Hb.out];rintro e w' ⟨rfl,rfl⟩)
   go_ret;exact ret_one (d.alloc _) (eX _ _ _) d.size
  ·have Hb:=za hb;clear hb;simp only [if_true]
   go_enter Tryz.func298,Tryz.ntmps298
   go_upto_region 1 with fail
   generalize w.alloc _=y at *;have c0:=H.cell;obtain⟨lo,hi,D⟩:=(HN.out y d).sys;obtain⟨b,o,s',B,n,c',rfl,_,_,M,O,e1,e2,u⟩:=D.sys hip;obtain rfl:s=s':=by have:=M.out;rw [Hs.out] at this;exact Option.some.inj this
   rw [E.out] at O;have ao:=za u.1;have HR:=za (fun W (hW:Ext y W)=>u.2.ext hW);have a1:=u.2.len;clear e1 D u;go_upto_region 6 with (go_at_call 143;with_reducible refine (zaq J l X _ oM).mono ?_;rw [Hb.out];rintro e w' ⟨rfl,rfl⟩)
   have Y:w.heap.size<=y.heap.size:=d.size;have ae:=World.ownsRow_lit (base:=y.heap.size) (e:=3) (size:=1) y #[] 0 (dI _) lM rfl;generalize U0:y.alloc _=w2 at *;have I:=Ext.al_ U0;have aq:=(H.ext I).cell;have ar:=I.aa e2;clear U0;clear c0 O e2;go_wp2_with fail
   go_loopw [9,11] (fun v j wr=>∃ k:Nat,k<=n∧j=.int .i64 k∧wr.ownsRow y.heap.size 3 1 v (chE (s.edges.take k) q l).length (zac (chE (s.edges.take k) q l))∧Ext y wr) (fun _ j _=>n - (intOf j).toNat)
   case atStart=>exact⟨0,eC _,rfl,ae,I⟩
   case round =>
    clear ae aq ar I;obtain⟨k,hk,rfl,z,Z⟩:=hrel
    by_cases hlt:k<n
    ·obtain⟨b',o',x,rfl,_,_,ab,d0,d1,d2⟩:=(HR.out wr Z).edge hlt;obtain⟨⟨f0,f1⟩,⟨l0,l1⟩,⟨t0,t1⟩⟩:=Hf.out x (dG ab.out);have g:=za (chE_take ab.out q l);have aO:=ai.out k
     by_cases hfr:x.fr=(q:Int)
     ·by_cases hle:x.le=(l:Int)
      ·obtain⟨t,ht⟩:∃ t:Nat,x.ta=t:=⟨x.ta.toNat,oM⟩;rw [hfr] at d0;rw [hle] at d1;rw [ht] at d2;have f:=za (show chE (s.edges.take (k+1)) q l=chE (s.edges.take k) q l++[t] by rw [g.out,if_pos ⟨hfr,hle⟩,ht];rfl);clear hfr hle f0 f1 l0 l1 t0 t1 ht g;generalize chE (s.edges.take k) q l=cs at *;go_wp2_with (at_builtin;refine zO y wr rfl _ _ _ rfl 3 _ 1 8 Tryz.underlying110 zae rfl dM u9 _ _ _ _ rfl rfl Z z rfl (zbg _) lM oM ?_;intro v' w5 hext5 zkr hg5 hat5)
       go_roundw
       case rel=>exact⟨k+1,oM,gM,by rw [f.out,eK,zeD];exact zkr,hext5⟩
       case measure=>simp [intOf];omega
      ·have az:(x.le==(l:Int))=false:=by simp;omega
       have f:=za (show chE (s.edges.take (k+1)) q l=chE (s.edges.take k) q l by rw [g.out,if_neg (fun h=>hle h.2),gS]);rw [hfr] at d0;clear hfr hle f0 f1 l0 l1 t0 t1 g;go_wp2_with fail
       go_roundw
       case rel=>exact⟨k+1,oM,gM,by rw [f.out];exact z,Z⟩
       case measure=>simp [intOf];omega
     ·have az:(x.fr==(q:Int))=false:=by simp;omega
      have f:=za (show chE (s.edges.take (k+1)) q l=chE (s.edges.take k) q l by rw [g.out,if_neg (fun h=>hfr h.1),gS]);clear hfr f0 f1 l0 l1 t0 t1 g;go_wp2_with fail
      go_roundw
      case rel=>exact⟨k+1,oM,gM,by rw [f.out];exact z,Z⟩
      case measure=>simp [intOf];omega
    ·obtain rfl:n=k:=oM;have ad:=za (show wr.ownsRow w.heap.size 3 1 u9 (chE s.edges q l).length (zac (chE s.edges q l)) by
      rw [eF (oH ao.out)] at z;exact zq z Y)
     obtain⟨A5,c5,rfl⟩:=zi ad.out;have aE:=d.trans Z;clear z;go_wp2;go_ret;exact⟨_,_,rfl,ad.out,aE⟩
 ·obtain⟨j,hj⟩:∃ j,i=pn+j:=⟨i - pn,oM⟩;subst hj;have S:us[j]?.map zbv=some m:=by
   rw [zbl,eN (by simp;have:=r.out;omega),eM] at hm;rw [← hm]
   congr 2
   simp;have:=r.out;omega
  obtain⟨a,E,rfl⟩:=Option.map_eq_some_iff.1 S;have ay:j<an:=by rw [Q.out];exact (List.getElem?_eq_some_iff.1 E).1
  have aD:=za (hok.aut a (dG E));have Ha:=za E;have Hq:=za (show q<a.next.length from hq);clear hm S E hok h hq;change Calls _ _ _ _ (zbI w [aGo a q l])
  go_enter Tryz.func298,Tryz.ntmps298
  go_upto_region 1 with fail
  generalize w.alloc _=y at *;have c0:=H.cell;obtain⟨lo,hi,F⟩:=(HN.out y d).aut;obtain⟨b,o,a',B,m,c,B',m',c',rfl,ax,O,e1,e2,R⟩:=F.aut ay;obtain rfl:a=a':=by have:=ax.out;rw [Ha.out] at this;exact Option.some.inj this
  have aZ:¬ ((pn+j:Nat):Int)<(pn:Int):=oM;have a4:((pn+j:Nat):Int) - (pn:Int)=(j:Int):=oM;have ak:=za R;clear F R;go_wp2_with (go_at_call 225;with_reducible refine (zdU ak.out aD.out Hq.out hl).mono (mQ fun w5 aa=>?_))
  go_ret;exact ret_one ((d.trans aa).alloc _) (eX _ _ _) ((d.trans aa).size)
theorem zha (n:Nat)(h:n<9223372036854775808):IntKind.i64.wrap (n:Int)=(n:Int):=by rw [IntKind.wrap_i64];omega
theorem chs_fst (ms:List Mem) (x l:Nat):(chs ms x l).map Prod.fst=ms.map Prod.fst:=by
 induction ms with
 |nil=>rfl
 |cons m r ih=>simp [chs,ih]
theorem zdZ.choices {us:List Aut}(h:zdZ ss us) {m:Mem}(hm:m∈zbl ss us) (hq:q<m.1)(hl:l<6):(∀ x∈m.2 q l,x<m.1)∧(m.2 q l).length<=m.1:=by
 refine⟨(h.ok m hm).2 q l hq hl,?_⟩;rcases List.mem_append.1 hm with b|b
 ·obtain⟨s,d,rfl⟩:=List.mem_map.1 b;exact cho_len (zck (h.sys s d)) hq
 ·obtain⟨a,c,rfl⟩:=List.mem_map.1 b;have:=(zl (h.aut a c)).2.1.1;simp only [zbv];simpa using this
theorem zdZ.fwd_ {us:List Aut}(h:zdZ ss us) (x:Nat) (hl:l<6) (k:Nat):(fwd ((chs (zbl ss us) x l).take k)).length<=1048576∧∀ y∈fwd ((chs (zbl ss us) x l).take k),y<1048576:=by
 have d:∀ c∈(chs (zbl ss us) x l).take k,(∀ y∈c.2,y<c.1)∧c.2.length<=c.1:=by
  intro c d;obtain⟨i,f⟩:=eU (iF d);have a:=(List.getElem?_eq_some_iff.1 f).1;rw [zgp] at a;have j:(zbl ss us)[i]?=some (zbl ss us)[i]:=dH a;rw [chs_get j] at f;obtain rfl:=Option.some.inj f;have b:=gI a;exact h.choices b (iQ _ (h.ok _ b).1) hl
 have g:=(h.total (((chs (zbl ss us) x l).take k).map Prod.fst) (by rw [← zfS,← chs_fst _ x l];exact (List.take_sublist _ _).map _)).2;refine⟨eI (fwd_len fun c hc'=>(d c hc').2) g,fun y hy=>eV (fwd_lt (fun c hc'=>(d c hc').1) y hy) g⟩
theorem spec_l4Nexts {TA:Option Addr} {tc:Nat}  {L:Int}  {us:List Aut}  (h:zfD w PA pn AA an ss us)(hok:zdZ ss us)(hS:Lst zbq w lo hi SA (szs ss us))(hT:Lst zbq w lo' hi' TA (dec (szs ss us) x))(hn:(szs ss us).length=n)(hl:l<6) :
  Calls Tryz.prog 275 #[.agg #[.slice PA pn pc,.slice AA an ac,sv,L,K,G],.slice SA n sc,.slice TA n tc,l] w (zbI w (pnx (zbl ss us) x l)):=by
 obtain⟨E,U0⟩:∃ x,Hid (w.alloc (.cells #[.slice PA pn pc,.slice AA an ac,sv,L,K,G] 185)=x):=⟨_,za rfl⟩;have ak:Ext w E:=((dE w).alloc _).trans (Ext.eq_ U0.out);have aW:=Ext.bl_ U0.out;have HN:=za (fun W (hW:Ext w W)=>h.ext hW);have HS:=za (fun W (hW:Ext w W)=>hS.ext zbq.ok hW);have HT:=za (fun W (hW:Ext w W)=>hT.ext zbq.ok hW);have aU:=za hok;have bw:n<=5:=by rw [← hn];exact hok.len
 have U:(chs (zbl ss us) x l).length=n:=by rw [zgp,← hn,← zfS,eT]
 have aS:=za (hok.fwd_ x hl);have ar:=za (show ∀ k,k<n->∃ m,(zbl ss us)[k]?=some m∧(szs ss us)[k]?=some m.1∧(dec (szs ss us) x)[k]?=some (x / zE ((zbl ss us).drop (k+1)) % m.1)∧(chs (zbl ss us) x l)[k]?=some (m.1,m.2 (x / zE ((zbl ss us).drop (k+1)) % m.1) l)∧1<=m.1∧m.1<=16 from fun k hk=>by
  have ab:k<(zbl ss us).length:=by rw [← zgp _ x l,U];exact hk
  have F:(zbl ss us)[k]?=some (zbl ss us)[k]:=dH ab;have hz:(szs ss us)[k]?=some ((zbl ss us)[k]).1:=by rw [← zfS,eM,F];rfl
  refine⟨_,F,hz,?_,chs_get F,hok.le16 _ (dG hz)⟩;rw [zju hz,← zfS,← List.map_drop];rfl)
 have aq:=za (fwd_pnx (zbl ss us) x l);have aR:=za (fun (m:Mem) (F:m∈zbl ss us) (q l:Nat) (hq:q<m.1) (hl:l<6)=>hok.choices F hq hl);clear h hS hT hok;generalize hK:chs (zbl ss us) x l=KK at *;have au:=za U;have bj:=za hn;clear hK U hn
 go_enter Tryz.func275,Tryz.ntmps275
 go_upto_region 1 with fail
 rw [U0.out] at *;go_upto_region 2 with fail
 have aK:=(dE E).alloc (.cells #[(0:Int)] 3);have aH:w.heap.size<=E.heap.size:=ak.size;have aO:=World.ownsRow_lit (base:=E.heap.size) (e:=3) (size:=1) E #[(0:Int)] 1 (dI _) lM rfl;generalize hg1:(some ⟨E.heap.size,0,none⟩:Option Addr)=A1 at *;clear hg1;generalize E.alloc _=w2 at *;go_wp2_with fail
 go_loopw [9,10,11,12,13,14] (fun v i _ _ _ _ wr=>∃ (k:Nat) (c:List Nat),i=.int .i64 k∧k<=n∧Hid (c=fwd (KK.take k))∧wr.ownsRow E.heap.size 3 1 v c.length (zac c)∧Ext E wr) (fun _ i _ _ _ _ _=>n - (intOf i).toNat)
 case atStart=>exact⟨0,[0],rfl,eC _,rfl,by simpa [zac] using aO,aK⟩
 case round =>
  clear aO aK;obtain⟨k,c,rfl,hk,B,J,hx⟩:=hrel;obtain⟨A0,c0,rfl⟩:=zi J
  by_cases hlt:k<n
  ·obtain⟨m,F,hz,hd,hc,aB,S⟩:=ar.out k hlt;have Hm:=za F;have Hc:=za hc;obtain⟨aZ,af⟩:=aS.out k;rw [← B.out] at aZ af;have aT:=za af;obtain⟨q,hq⟩:∃ q:Nat,Hid (x / zE ((zbl ss us).drop (k+1)) % m.1=q):=⟨_,rfl⟩;have ah:q<m.1:=by rw [← hq.out];exact iQ _ aB
   obtain⟨O,Q⟩:=aR.out m (dG F) q l ah hl;have u:=za O;rw [hq.out] at hd;have T:=za (show KK[k]?=some (m.1,m.2 q l) by rw [Hc.out,hq.out]);obtain⟨s,aG⟩:∃ s:Nat,Hid (m.1=s):=⟨_,rfl⟩;obtain⟨p,V⟩:∃ p:List Nat,Hid (m.2 q l=p):=⟨_,rfl⟩;have ab:k<(dec (szs ss us) x).length:=(List.getElem?_eq_some_iff.1 hd).1;have al:=ak.trans hx;obtain⟨bt,ot,q',rfl,_,_,H,az⟩:=(HT.out wr al).num ab;obtain rfl:q=q':=by have:=H.out;rw [hd] at this;exact Option.some.inj this
   obtain⟨bz,oz,z',rfl,_,_,aN,Y⟩:=(HS.out wr al).num (List.getElem?_eq_some_iff.1 hz).1;obtain rfl:m.1=z':=by have:=aN.out;rw [hz] at this;exact Option.some.inj this
   have av:=za ah;rw [aG.out] at Y aB S Q;rw [V.out] at Q u;rw [aG.out] at u T;rw [V.out] at T;have aj:=za (show fwd (KK.take (k+1))=c.flatMap fun o=>p.map fun y=>o*s+y by
    rw [eG,T.out,e8,zjy,← B.out])
   have CT:∀ W,Ext wr W->W.cell? ⟨bt,ot+k,none⟩=some (.int .i64 (q:Nat)):=fun W hW=>hW.aa az;have CB:∀ W,Ext wr W->∀ j,W.cell? ⟨w.heap.size,j,none⟩=#[Value.slice PA pn pc,.slice AA an ac,sv,.int .i64 L,.int .i64 K,.int .i64 G][j]?:=fun W hW=>((aW.ext hx).ext hW).cell;have CC:=za (show ∀ W,Ext wr W->Calls Tryz.prog 298 #[.agg #[.slice PA pn pc,.slice AA an ac,sv,L,K,G],k,q,l] W (zbI W p) from fun W hW=>by
    have:=ziz (pc:=pc) (ac:=ac) (sv:=sv) (L:=L) (K:=K) (G:=G) (HN.out W (al.trans hW)) aU.out Hm.out av.out hl;rw [V.out] at this;exact this)
   have bu:(k:Int)<(n:Int):=oM;have ai:=dE wr;clear az aN H hz hd hc F ah O af av;go_upto_region 5 with fail
   refine uR (fun X=>Ext wr X) [7] (zw.of [0,1,2,3,4,5,6,7,8]) ?_;refine uQ ?_;refine zb fun K hK=>?_;go_simp;refine (CC.out _ ai.drew).mono ?_;rintro e r ⟨A4,c4,rfl,C,aL⟩;refine hK.out _ _ ?_;refine pT ?_;refine uQ ?_;refine zg ?_;have I:Ext wr r:=ai.drew.trans aL;have aw:=Lst.ai C;have ay:=(Lst.ai J).ext zbq.ok I;have R:=I.aa Y;clear CT CB CC ai C aL Y;go_upto_region 7 with fail
   have d:=(dE r).alloc (.cells #[] 3);have f:=World.ownsRow_lit (base:=r.heap.size) (e:=3) (size:=1) r #[] 0 (dI _) lM rfl;generalize hg1:(some ⟨r.heap.size,0,none⟩:Option Addr)=A5 at *;clear hg1;generalize r.alloc _=w5 at *;have M:=za (fun W (hW:Ext r W)=>ay.ext zbq.ok hW);have ax:=za (fun W (hW:Ext r W)=>aw.ext zbq.ok hW);have aV:=za (fun W (hW:Ext r W)=>hW.aa R);clear ay aw R;go_wp2_with fail
   go_loopw [12,13,14] (fun v i _ wr=>∃ (a:Nat) (t:List Nat),i=.int .i64 a∧a<=c.length∧Hid (t=(c.take a).flatMap fun o=>p.map fun y=>o*s+y)∧wr.ownsRow r.heap.size 3 1 v t.length (zac t)∧Ext r wr) (fun _ i _ _=>c.length - (intOf i).toNat)
   case atStart=>exact⟨0,[],rfl,eC _,by simp [Hid],by simpa [zac] using f,d⟩
   case round =>
    clear f d;obtain⟨a,t,rfl,ha,ae,f,d⟩:=hrel
    by_cases hla:a<c.length
    ·obtain⟨bo,oo,o,rfl,_,_,ho,aX⟩:=(M.out _ d).num hla;have ba:=aT.out o (dG ho.out);have bx:t.length<=16777216:=by
      rw [ae.out];refine eI (flat_len (k:=p.length) fun z _=>sM) ?_;rw [fL];have:=fU (show min a c.length<=1048576 by omega) (show p.length<=16 by omega);omega
     have a0:=za (show ((c.take (a+1)).flatMap fun o=>p.map fun y=>o*s+y)=t++p.map fun y=>o*s+y by
      rw [eG,ho.out,ae.out];simp)
     clear aX;go_wp2_with fail
     go_loopw [12,14] (fun v i wr=>∃ (b:Nat) (D:List Nat),i=.int .i64 b∧b<=p.length∧Hid (D=t++(p.take b).map fun y=>o*s+y)∧wr.ownsRow r.heap.size 3 1 v D.length (zac D)∧Ext r wr) (fun _ i _=>p.length - (intOf i).toNat)
     case atStart=>exact⟨0,t,rfl,eC _,by simp [Hid],f,d⟩
     case round =>
      clear f d;obtain⟨b,D,rfl,hb,ad,f,d⟩:=hrel
      by_cases hlb:b<p.length
      ·obtain⟨bc,oc,y,rfl,_,_,hy,aA⟩:=(ax.out _ d).num hlb;have be:=u.out y (dG hy.out);have a9:D.length<=16777216+16:=by rw [ad.out,eK,eT,fL];omega
       have aC:o*s<=1048576*16:=fU oM S;obtain⟨os,ag⟩:∃ z:Nat,Hid (o*s=z):=⟨_,rfl⟩;have bb:(o:Int)*(s:Int)=(os:Int):=by rw [← ag.out];exact (Int.natCast_mul o s).symm
       rw [ag.out] at aC;have aF:=za (show (t++(p.take (b+1)).map fun y=>o*s+y)=D++[os+y] by
        rw [eG,hy.out,ad.out,← ag.out];simp)
       have C1:∀ W,Ext wr W->W.cell? ⟨bo,oo+a,none⟩=some (.int .i64 (o:Nat)):=fun W hW=>(M.out W (d.trans hW)).num2 ho.out;have C2:=fun W (hW:Ext wr W)=>aV.out W (d.trans hW);have C3:∀ W,Ext wr W->W.cell? ⟨bc,oc+b,none⟩=some (.int .i64 (y:Nat)):=fun W hW=>hW.aa aA;have br:(a:Int)<(c.length:Int):=oM;have bs:(b:Int)<(p.length:Int):=oM;have aI:=dE wr;clear aA;go_upto_region 13 with fail
       refine uR (fun X=>Ext wr X) [15,16] (zw.of [0,1,2,3,4,5,6,7,8,9,10,11,12,13,14,15,16,17]) ?_;refine uQ ?_;refine ze fun K hK=>?_;go_simp;refine hK.out _ _ (aI.drew.alloc _) ?_;refine pT ?_;refine zb fun K hK=>?_;refine zaH r wr.drew _ _ _ rfl 3 _ 1 8 Tryz.underlying110 zae rfl dM u12 D.length (zac D) _ _ rfl rfl (d.drew).size f rfl (zbg _) lM oM ?_;intro g5 cap5 w6 g hg6 hat6 hlt6;have a1:IntKind.i64.wrap (IntKind.i64.wrap (os:Int)+(y:Int))=((os+y:Nat):Int):=by rw [zha os oM,← Int.natCast_add,zha (os+y) oM]
       rw [a1] at g;refine hK.out _ _ ?_;refine pT ?_;refine uQ ?_;refine zg ?_;have am:Ext r w6:=d.drew.grown hg6 (fun q' H=>(f.lt q' H).1);go_wp2_with fail
       go_roundw
       case rel=>exact⟨b+1,D++[os+y],gM,oM,by unfold Hid;rw [aF.out],by rw [eK,zeD];exact g,am⟩
       case measure=>simp [intOf];omega
      ·obtain rfl:b=p.length:=oM;have Z:=za (show D=t++p.map fun y=>o*s+y by rw [ad.out,fB]);go_wp2_with fail
       go_roundw
       case rel=>exact⟨a+1,D,gM,oM,by unfold Hid;rw [a0.out,Z.out],f,d⟩
       case measure=>simp [intOf];omega
    ·obtain rfl:a=c.length:=oM;have aa:=za (show t=fwd (KK.take (k+1)) by rw [aj.out,ae.out,fB]);have am:=hx.trans (I.trans d);have g:=zq f (show E.heap.size<=r.heap.size from (hx.trans I).size);go_wp2_with fail
     go_roundw
     case rel=>exact⟨k+1,t,gM,oM,aa,g,am⟩
     case measure=>simp [intOf];omega
  ·obtain rfl:n=k:=oM;have a3:=za (show c=pnx (zbl ss us) x l by rw [B.out,eF (oH au.out)];exact aq.out);have aE:=za (show zbI w (pnx (zbl ss us) x l) (.returned (.slice A0 c.length c0)) wr from by
    rw [← a3.out];exact⟨A0,c0,rfl,zq J aH,ak.trans hx⟩)
   clear J;go_wp2;go_ret;exact aE.out
theorem info_intss:(Tryz.prog.info? 24).map (fun i=>(i.zero,i.size,i.bytes))=some (some (.slice none 0 0),1,24):=kM
def mvs (d:Nat->Nat->List Nat) (L:List Nat) (N:Nat):List (List (List Nat)):=(List.range N).map fun x=>L.map fun l=>d x l
theorem zdN (d:Nat->Nat->List Nat) (L:List Nat) (N:Nat):(mvs d L N).length=N:=by simp [mvs]
abbrev P3:Lay (List (List Nat)):=LstP (LstP zbq)
theorem P3.ok:Lay.Ok P3:=LstP.ok (LstP.ok zbq.ok)
def RetMv (w:World) (mv:List (List (List Nat))) (e:Ending) (w':World):Prop:=∃ A c,e=.returned (.slice A mv.length c)∧Lst P3 w' w.heap.size w'.heap.size A mv∧Ext w w'
theorem spec_l4Moves {L:Nat}  {us:List Aut} (h:zfD w PA pn AA an ss us)(hok:zdZ ss us)(hS:Lst zbq w lo hi SA (szs ss us))(hn:(szs ss us).length=n)(hL:L<64)(hN:N<=1048576) :
  Calls Tryz.prog 216 #[.agg #[.slice PA pn pc,.slice AA an ac,sv,L,K,G],.slice SA n sc,N] w (RetMv w (mvs (pnx (zbl ss us)) (letters L 6) N)):=by
 have HN:=za (fun W (hW:Ext w W)=>h.ext hW);have HS:=za (fun W (hW:Ext w W)=>hS.ext zbq.ok hW);have aB:=za hok;have Hn:=za hn;have a1:n<=5:=by rw [← hn];exact hok.len
 have Hz:=za hok.le16;have aD:Sm L:=tM;have a0:=zA L 6;have az:=za (show ∀ l∈letters L 6,l<6 from fun l hl=>(zD.1 hl).1);clear h hok hS hn
 go_enter Tryz.func216,Tryz.ntmps216
 go_upto_region 1 with fail
 generalize U0:w.alloc _=B at *;obtain⟨U,aa⟩:=Ext.x1_ U0;clear U0;go_upto_region 2 with fail
 have V:=(dE B).alloc (.cells #[] 24);have ag:w.heap.size<=B.heap.size:=U.size;have al:=World.ownsRow_lit (base:=B.heap.size) (e:=24) (size:=1) B #[] 0 (dI _) lM rfl;have J:∀ b,(Value.slice (some B.heap.size) 0 0).ownBlock=some b->b<(B.alloc (.cells #[] 24)).heap.size:=fun b hb=>by
  simp [Value.ownBlock] at hb
  simp;omega
 generalize hg1:(some ⟨B.heap.size,0,none⟩:Option Addr)=A1 at *;clear hg1;generalize B.alloc _=w2 at *;have c2:=(aa.ext V).cell;go_upto_region 3 with (go_at_call 134;refine (zah L aD _).mono ?_;rintro e Y ⟨AL,cL,rfl,E,I⟩)
 have ak:=V.trans I;have d:=Lst.ai E;have aH:=I.size;have am:=zh al I;clear al E V I c2;generalize hlq:letters L 6=f at *;have aU:=za hlq;clear hlq;go_wp2_with fail
 go_loopw [7,9,10,11,12] (fun v i _ _ _ wr=>∃ k:Nat,i=.int .i64 k∧k<=N∧Grl P3 wr B.heap.size 24 v (mvs (pnx (zbl ss us)) f k)∧Ext B wr∧Lst zbq wr w2.heap.size Y.heap.size AL f∧(∀ b,v.ownBlock=some b->b<w2.heap.size∨Y.heap.size<=b)∧Y.heap.size<=wr.heap.size) (fun _ i _ _ _ _=>N - (intOf i).toNat)
 case atStart=>exact⟨0,rfl,eC _,⟨[],am,fun i r x hr=>by simp at hr⟩,ak,d,fun b hb=>Or.inl (J b hb),dI _⟩
 case round =>
  clear am d J;obtain⟨k,rfl,hk,C,hx,d,R,a2⟩:=hrel;have o:=zdN (pnx (zbl ss us)) f k;obtain⟨A0,c0,rfl⟩:=C.form;rw [o];rw [o] at R;have Z:=za R;clear R
  by_cases hlt:k<N
  ·have ai:=U.trans hx;have aC:=za (show mvs (pnx (zbl ss us)) f (k+1)=mvs (pnx (zbl ss us)) f k++[f.map fun l=>pnx (zbl ss us) k l] by simp [mvs,List.range_succ]);rw [o] at C;go_upto_region 7 with (go_at_call 218;refine (zgb (HS.out _ ai) Hn.out oM Hz.out oM).mono ?_;rintro e z ⟨A4,c4,rfl,p,y⟩)
   have O:(dec (szs ss us) k).length=n:=by rw [zdK];exact Hn.out
   rw [O] at p;rw [O];have HT:=za (fun W (hW:Ext z W)=>(Lst.ai (xs:=dec (szs ss us) k) (c:=c4) (A:=A4) (by rw [O];exact p)).ext zbq.ok hW);clear p;go_upto_region 8 with fail
   have a:=(dE z).alloc (.cells #[] 110);have ao:=World.ownsRow_lit (base:=z.heap.size) (e:=110) (size:=1) z #[] 0 (dI _) lM rfl;generalize hg1:(some ⟨z.heap.size,0,none⟩:Option Addr)=A5 at *;clear hg1;generalize z.alloc _=w5 at *;have ah:=ai.trans y;have ay:=za (fun W (hW:Ext z W)=>((aa.ext (hx.trans y)).ext hW).cell);have HL:=za (fun W (hW:Ext z W)=>d.ext zbq.ok (y.trans hW));go_wp2_with fail
   go_loopw [11,12] (fun v i wr=>∃ j:Nat,i=.int .i64 j∧j<=f.length∧Grl (LstP zbq) wr z.heap.size 110 v ((f.take j).map fun l=>pnx (zbl ss us) k l)∧Ext z wr) (fun _ i _=>f.length - (intOf i).toNat)
   case atStart=>exact⟨0,rfl,eC _,⟨[],ao,fun i r x hr=>by simp at hr⟩,a⟩
   case round =>
    clear ao a;obtain⟨j,rfl,hj,F,a⟩:=hrel;obtain⟨A6,c6,rfl⟩:=F.form;have t:((f.take j).map fun l=>pnx (zbl ss us) k l).length=j:=by simp;omega
    rw [t];rw [t] at F
    by_cases hlj:j<f.length
    ·obtain⟨bl,ol,l,rfl,_,_,hl,ab⟩:=(HL.out _ a).num hlj;have aE:=az.out l (dG hl.out);have aG:=za (show (f.take (j+1)).map (fun l=>pnx (zbl ss us) k l)=(f.take j).map (fun l=>pnx (zbl ss us) k l)++[pnx (zbl ss us) k l] by rw [eG,hl.out];simp);have CL:∀ W,Ext wr W->W.cell? ⟨bl,ol+j,none⟩=some (.int .i64 (l:Nat)):=fun W hW=>hW.aa ab;have CB:=fun W (hW:Ext wr W)=>ay.out W (a.trans hW);have CC:=za (show ∀ W,Ext wr W->Calls Tryz.prog 275 #[.agg #[.slice PA pn pc,.slice AA an ac,sv,L,K,G],.slice SA n sc,.slice A4 n c4,l] W (zbI W (pnx (zbl ss us) k l)) from fun W hW=>spec_l4Nexts (HN.out W ((ah.trans a).trans hW)) aB.out (HS.out W ((ah.trans a).trans hW)) (HT.out W (a.trans hW)) Hn.out aE);have aZ:(j:Int)<(f.length:Int):=oM;have M:=dE wr;obtain⟨H,m,T⟩:=F;rw [t] at m;clear ab;go_upto_region 11 with fail
     refine uR (fun X=>Ext wr X) [8,9,10] (zw.of [0,1,2,3,4,5,6,7,8,9,10,11]) ?_;refine uQ ?_;refine zb fun K hK=>?_;go_simp;refine (CC.out _ M.drew).mono ?_;rintro e w7 ⟨A7,c7,rfl,S,aI⟩;have s:=M.drew.trans aI;refine hK.out _ _ ?_;refine pT ?_;refine zb fun K hK=>?_;go_simp;refine hK.out _ _ ?_;refine pT ?_;refine zb fun K hK=>?_;refine zaH z w7 _ _ _ rfl 110 _ 1 24 Tryz.underlying24 zcB rfl dM (.slice A6 j c6) j H _ _ rfl rfl (a.trans s).size (zh m s) rfl (zbc _ _ _) lM oM ?_;intro g8 cap8 w8 hown8 hg8 hat8 hlt8;refine hK.out _ _ ?_;refine pT ?_;refine uQ ?_;refine zg ?_;have D:Grl (LstP zbq) w8 z.heap.size 110 (.slice (some g8) (j+1) cap8) ((f.take j).map (fun l=>pnx (zbl ss us) k l)++[pnx (zbl ss us) k l]):=by
      have:=Grl.push2 (LstP.ok zbq.ok) (v:=.slice A6 j c6) (xs:=(f.take j).map fun l=>pnx (zbl ss us) k l) (g:=g8) (cap:=cap8) T (by rw [t];exact m) s ⟨A7,c7,rfl,Lst.ai S⟩ (dI wr.heap.size) a.size (dI _) (by rw [t];exact hown8) hg8 hat8;rwa [t] at this
     have aJ:Ext z w8:=(a.trans s).grown hg8 (fun q' hq'=>(m.lt q' hq').1);go_wp2_with fail
     go_roundw
     case rel=>exact⟨j+1,gM,oM,by rw [aG.out];exact D,aJ⟩
     case measure=>simp [intOf];omega
    ·obtain rfl:j=f.length:=oM;rw [fB] at F;have u:=y.trans a;have ad:=F.lst (LstP.ok zbq.ok);obtain⟨H,m,T⟩:=C;rw [o] at m;go_wp2_with (at_builtin;refine zO B wr rfl _ _ _ rfl 24 _ 1 24 Tryz.underlying237 info_intss rfl dM (.slice A0 k c0) k H _ _ rfl rfl (hx.trans u) (zh m u) rfl (zbc _ _ _) lM oM ?_;intro v8 w8 hext8 hown8 hg8 hat8)
     have D:Grl P3 w8 B.heap.size 24 v8 (mvs (pnx (zbl ss us)) f k++[f.map fun l=>pnx (zbl ss us) k l]):=
      Grl.push P3.ok (v:=.slice A0 k c0) T (by rw [o];exact m) u (⟨A6,c6,sM,ad⟩:P3 _ _ _ (.slice A6 f.length c6) _) y.size (hx.trans y).size (dI _) (by rw [o];exact hown8) hg8 hat8
     have Q:Lst zbq w8 w2.heap.size Y.heap.size AL f:=(d.ext zbq.ok u).frm zbq.ok (Frm.ae hg8) (fun q h1 h2 hq=>by have:=Z.out q hq;omega);have ae:∀ b,v8.ownBlock=some b->b<w2.heap.size∨Y.heap.size<=b:=fun b hb=>by
      rcases hat8 with h1|h1
      ·rw [h1] at hb;exact Z.out b hb
      ·rw [h1] at hb;have:=Option.some.inj hb;have:=u.size;omega
     have aF:Y.heap.size<=w8.heap.size:=by have:=u.size;have:=(Frm.ae hg8).size;omega
     go_roundw
     case rel=>exact⟨k+1,gM,oM,by rw [aC.out];exact D,hext8,Q,ae,aF⟩
     case measure=>simp [intOf];omega
  ·obtain rfl:N=k:=oM;have af:=za (show RetMv w (mvs (pnx (zbl ss us)) f N) (.returned (.slice A0 N c0)) wr from by
    refine⟨A0,c0,by rw [o],?_,U.trans hx⟩;have:=C.lst P3.ok;exact this.more P3.ok ag (dI _))
   clear C;go_wp2;go_ret;exact af.out
section
variable (d:Nat->Nat->List Nat) (L:List Nat) (goal:Nat->Bool)
def Dn:Nat->Nat->Prop
 |0,x=>goal x=true
 |n+1,x=>∃ l∈L,∃ y∈d x l,Dn n y
def Mn (n x:Nat):Prop:=Dn d L goal n x∧∀ m,m<n->¬ Dn d L goal m x
end
section
variable {d:Nat->Nat->List Nat} {L:List Nat} {goal:Nat->Bool} {start:List Nat} {N:Nat}
theorem Dn.word:∀ {n x:Nat} {v:List Nat},Dn d L goal n x->zbe d start v x->∃ u:List Nat,u.length=n∧(∀ l∈u,l∈L)∧∃ y,zbe d start (v++u) y∧goal y=true:=by
 intro n
 induction n with
 |zero=>intro x v h hg;exact⟨[],rfl,sM,x,by simpa using hg,h⟩
 |succ n ih =>
  intro x v h hg;obtain⟨l,i,y,j,h⟩:=h;obtain⟨u,b,c,z,f,g⟩:=ih h (.snoc hg j);refine⟨l :: u,by simp [b],?_,z,by simpa using f,g⟩;intro k a;rcases List.mem_cons.1 a with rfl|a
  ·exact i
  ·exact c k a
theorem zbe.dn:∀ {u v:List Nat} {y:Nat},zbe d start (v++u) y->goal y=true->(∀ l∈u,l∈L)->∃ x,zbe d start v x∧Dn d L goal u.length x:=by
 intro u
 induction u with
 |nil=>intro v y h hg _;exact⟨y,by simpa using h,hg⟩
 |cons l u ih =>
  intro v y h hg hl;have a:zbe d start ((v++[l])++u) y:=by simpa using h
  obtain⟨x,b,c⟩:=ih a hg (fun k hk=>hl k (by simp [hk]));obtain⟨n,f,g⟩:=b.inv;exact⟨n,f,l,hl l sM,x,g,c⟩
theorem Dn.least (h:Dn d L goal n x):∃ m,m<=n∧Mn d L goal m x:=by
 induction n using Nat.strongRecOn with
 |_ n ih =>
  by_cases hm:∃ m,m<n∧Dn d L goal m x
  ·obtain⟨m,a,b⟩:=hm;obtain⟨k,f,c⟩:=ih m a b;exact⟨k,oM,c⟩
  ·exact⟨n,dI _,h,fun m a b=>hm ⟨m,a,b⟩⟩
theorem Mn.next (h:Mn d L goal (n+1) x):∃ l∈L,∃ y∈d x l,Mn d L goal n y:=by
 obtain⟨⟨l,a,y,b,c⟩,f⟩:=h;exact⟨l,a,y,b,c,fun m hm hd=>f (m+1) oM ⟨l,a,y,b,hd⟩⟩
theorem Mn.uniq (h:Mn d L goal m x) (k:Mn d L goal n x):m=n:=by
 rcases fQ m n with a|a|a
 ·exact absurd h.1 (k.2 m a)
 ·exact a
 ·exact absurd k.1 (h.2 n a)
def Dst (d:Nat->Nat->List Nat) (L:List Nat) (goal:Nat->Bool) (k:Nat) (x:Nat) (v:Int):Prop:=(v = -1∧∀ m,m<k->¬ Dn d L goal m x)∨∃ n:Nat,n<k∧v=n∧Mn d L goal n x
def zbG (d:Nat->Nat->List Nat) (L:List Nat) (goal:Nat->Bool) (N k i:Nat) (ds:List Int):Prop:=ds.length=N∧∀ (x:Nat) (v:Int),ds[x]?=some v->Dst d L goal (if x<i then k+1 else k) x v
theorem zbG.round_ (h:zbG d L goal N k N ds):zbG d L goal N (k+1) 0 ds:=⟨h.1,fun x v hx=>by
 have h1:=h.2 x v hx
 have h2:=(List.getElem?_eq_some_iff.1 hx).1
 rw [if_pos (by rw [← h.1];exact h2)] at h1
 rw [if_neg oM]
 exact h1⟩
theorem zbG.init (hl:ds.length=N)(h:∀ (x:Nat) (v:Int),ds[x]?=some v->v=if goal x then 0 else -1):zbG d L goal N 1 0 ds:=⟨hl,fun x v hx=>by
 rw [if_neg oM]
 have:=h x v hx
 cases hg:goal x
 ·rw [hg] at this
  refine Or.inl ⟨by simpa using this,fun m hm=>?_⟩
  obtain rfl:m=0:=oM
  simp [Dn,hg]
 ·rw [hg] at this
  exact Or.inr ⟨0,oM,by simpa using this,hg,fun m hm=>oM⟩⟩
theorem zbG.skip (h:zbG d L goal N k i ds)(hv:ds[i]?=some v)(h0:0<=v):zbG d L goal N k (i+1) ds:=⟨h.1,fun x u hx=>by
 have h1:=h.2 x u hx
 by_cases hxi:x=i
 ·subst hxi
  rw [hv] at hx
  obtain rfl:=Option.some.inj hx
  rw [if_pos oM]
  rw [if_neg oM] at h1
  rcases h1 with ⟨h2,_⟩|⟨n,h2,h3⟩
  ·omega
  ·exact Or.inr ⟨n,oM,h3⟩
 ·by_cases h2:x<i
  ·rw [if_pos h2] at h1
   rw [if_pos oM]
   exact h1
  ·rw [if_neg h2] at h1
   rw [if_neg oM]
   exact h1⟩
def zjI (d:Nat->Nat->List Nat) (L:List Nat) (ds:List Int) (k:Nat) (x:Nat):Bool:=L.any fun l=>(d x l).any fun y=>ds.getD y (-1)==(k:Int)
theorem near_iff :zjI d L ds k x=true↔∃ l∈L,∃ y∈d x l,ds[y]?=some (k:Int):=by
 simp only [zjI,List.any_eq_true,beq_iff_eq];constructor
 ·rintro ⟨l,a,y,b,h⟩;refine⟨l,a,y,b,?_⟩;rw [eE] at h;cases hh:ds[y]? with
  |none=>rw [hh] at h;simp at h
  |some v=>rw [hh] at h;simp at h;rw [h]
 ·rintro ⟨l,a,y,b,h⟩;exact⟨l,a,y,b,by rw [eE,h];rfl⟩
theorem zbG.near (h:zbG d L goal N (k+1) i ds)(hd:∀ x l,x<N->l∈L->∀ y∈d x l,y<N)(hv:ds[i]?=some v)(h0:v<0):zjI d L ds k i=true↔Mn d L goal (k+1) i:=by
 have p:i<N:=by rw [← h.1];exact (List.getElem?_eq_some_iff.1 hv).1
 have u:=h.2 i v hv;rw [if_neg oM] at u;have g:∀ m,m<k+1->¬ Dn d L goal m i:=by
  rcases u with ⟨_,b⟩|⟨n,_,c,_⟩
  ·exact b
  ·omega
 have s:∀ y (n:Nat),ds[y]?=some (n:Int)->Mn d L goal n y:=fun y n a=>by
  rcases h.2 y _ a with ⟨b,_⟩|⟨m,_,b,c⟩
  ·omega
  ·obtain rfl:n=m:=oM;exact c
 rw [near_iff];constructor
 ·rintro ⟨l,f,y,a,r⟩;exact⟨⟨l,f,y,a,(s y k r).1⟩,g⟩
 ·rintro ⟨⟨l,f,y,a,b⟩,_⟩;refine⟨l,f,y,a,?_⟩;have q:y<ds.length:=by rw [h.1];exact hd i l p f y a
  have j:ds[y]?=some ds[y]:=dH q;rw [j]
  congr 1
  rcases h.2 y _ j with ⟨_,c⟩|⟨n,_,c,t⟩
  ·exact absurd b (c k (by split<;>omega))
  ·rw [c];rcases fQ n k with o|o|o
   ·exact absurd ⟨l,f,y,a,t.1⟩ (g (n+1) oM)
   ·rw [o]
   ·exact absurd b (t.2 k o)
theorem zbG.keep (h:zbG d L goal N (k+1) i ds)(hd:∀ x l,x<N->l∈L->∀ y∈d x l,y<N)(hv:ds[i]?=some v)(h0:v<0)(hn:zjI d L ds k i=false):zbG d L goal N (k+1) (i+1) ds:=⟨h.1,fun x u hx=>by
 have h1:=h.2 x u hx
 by_cases hxi:x=i
 ·subst hxi
  have hM:¬ Mn d L goal (k+1) x:=fun hm=>by rw [(h.near hd hv h0).2 hm] at hn;cases hn
  rw [hv] at hx
  obtain rfl:=Option.some.inj hx
  rw [if_pos oM]
  rw [if_neg oM] at h1
  rcases h1 with ⟨h2,h3⟩|⟨n,h2,h3,_⟩
  ·refine Or.inl ⟨h2,fun m hm hdm=>?_⟩
   by_cases he:m=k+1
   ·subst he
    exact hM ⟨hdm,h3⟩
   ·exact h3 m oM hdm
  ·omega
 ·by_cases h2:x<i
  ·rw [if_pos h2] at h1
   rw [if_pos oM]
   exact h1
  ·rw [if_neg h2] at h1
   rw [if_neg oM]
   exact h1⟩
theorem zbG.put (h:zbG d L goal N (k+1) i ds)(hd:∀ x l,x<N->l∈L->∀ y∈d x l,y<N)(hv:ds[i]?=some v)(h0:v<0)(hn:zjI d L ds k i=true):zbG d L goal N (k+1) (i+1) (ds.set i ((k+1:Nat):Int)):=⟨by rw [List.length_set];exact h.1,fun x u hx=>by
 by_cases hxi:x=i
 ·subst hxi
  rw [List.getElem?_set_self (List.getElem?_eq_some_iff.1 hv).1] at hx
  obtain rfl:=Option.some.inj hx
  rw [if_pos oM]
  exact Or.inr ⟨k+1,oM,rfl,(h.near hd hv h0).1 hn⟩
 ·rw [List.getElem?_set_ne (fun e=>hxi e.symm)] at hx
  have h1:=h.2 x u hx
  by_cases h2:x<i
  ·rw [if_pos h2] at h1
   rw [if_pos oM]
   exact h1
  ·rw [if_neg h2] at h1
   rw [if_neg oM]
   exact h1⟩
theorem set_count {u:Int}(hv:ds[i]?=some v)(h0:v = -1)(hu:0<=u):(ds.set i u).count (-1)+1=ds.count (-1):=by
 obtain⟨a,e⟩:=List.getElem?_eq_some_iff.1 hv;have b:1<=ds.count (-1):=List.count_pos_iff.2 (by rw [← h0,← e];exact gI a);rw [List.count_set a,e,h0];have:(u==(-1:Int))=false:=by simp;omega
 simp [this];omega
def DsFin (d:Nat->Nat->List Nat) (L:List Nat) (goal:Nat->Bool) (N:Nat) (ds:List Int):Prop:=ds.length=N∧∀ (x:Nat) (v:Int),ds[x]?=some v->(v = -1∧∀ m,¬ Dn d L goal m x)∨∃ n:Nat,v=n∧Mn d L goal n x
theorem zbG.fin (h:zbG d L goal N k N ds)(hd:∀ x l,x<N->l∈L->∀ y∈d x l,y<N)(hno:∀ x,x<N->¬ Mn d L goal k x):DsFin d L goal N ds:=by
 have p:∀ n x,x<N->¬ Mn d L goal (k+n) x:=by
  intro n
  induction n with
  |zero=>exact hno
  |succ n ih =>
   intro x hx hm;obtain⟨l,j,y,o,c⟩:=hm.next;exact ih y (hd x l hx j y o) c
 refine⟨h.1,fun x v hx=>?_⟩;have a:x<N:=by rw [← h.1];exact (List.getElem?_eq_some_iff.1 hx).1
 have c:=h.2 x v hx;rw [if_pos a] at c;rcases c with ⟨i,f⟩|⟨n,_,f⟩
 ·refine Or.inl ⟨i,fun m hm=>?_⟩;obtain⟨b,_,g⟩:=hm.least
  by_cases h5:b<k
  ·exact f b oM g.1
  ·have:=p (b - k) x a;rw [show k+(b - k)=b by omega] at this;exact this g
 ·exact Or.inr ⟨n,f⟩
theorem DsFin.val (h:DsFin d L goal N ds) (hx:x<N):ds[x]?=some (n:Int)↔Mn d L goal n x:=by
 have f:x<ds.length:=by rw [h.1];exact hx
 have c:ds[x]?=some ds[x]:=dH f;constructor
 ·intro h1;rcases h.2 x _ h1 with ⟨a,_⟩|⟨m,a,b⟩
  ·omega
  ·obtain rfl:n=m:=oM;exact b
 ·intro hm;rw [c];rcases h.2 x _ c with ⟨_,a⟩|⟨m,a,b⟩
  ·exact absurd hm.1 (a n)
  ·rw [a,b.uniq hm]
theorem wval_lt (w:List Nat)(h:∀ l∈w,l<6):zcF w<7 ^ w.length∧7 ^ w.length<=6*zcF w+1:=by
 have a:∀ n (w:List Nat),w.length=n->(∀ l∈w,l<6)->zcF w<7 ^ n∧7 ^ n<=6*zcF w+1:=by
  intro n
  induction n with
  |zero =>
   intro w hw _;obtain rfl:=eJ hw;simp [zcF]
  |succ n ih =>
   intro w hw hl;rcases zY w with rfl|⟨u,l,rfl⟩
   ·simp at hw
   ·have b:=ih u (by simpa using hw) (fun x hx=>hl x (by simp [hx]));have c:=hl l sM;rw [zaI,Nat.pow_succ];omega
 exact a w.length w rfl h
theorem zim {u v:List Nat}(hu:∀ l∈u,l<6)(hv:∀ l∈v,l<6)(h:v.length<u.length):zcF v<zcF u:=by
 have b:=wval_lt u hu;have c:=wval_lt v hv;have a:7 ^ (v.length+1)<=7 ^ u.length:=e6 oM h;rw [Nat.pow_succ] at a;omega
structure zep (d:Nat->Nat->List Nat) (L:List Nat) (goal:Nat->Bool) (start:List Nat) (at_:List Nat) (v:List Nat) (r:Nat):Prop where
 goes:∀ x∈at_,zbe d start v x∧Mn d L goal r x
 all:∀ x,zbe d start v x->Dn d L goal r x->x∈at_
 first:∀ u:List Nat,(∀ l∈u,l∈L)->u.length=v.length->zcF u<zcF v->∀ x,zbe d start u x->¬ Dn d L goal r x
 least:∀ u:List Nat,(∀ l∈u,l∈L)->u.length<v.length+r->∀ x,zbe d start u x->goal x=false
 letters:∀ l∈v,l∈L
 some_:at_≠[]
theorem zep.begin_ (h:Mn d L goal r x):zep d L goal [x] [x] [] r:=by
 refine⟨fun y hy=>?_,fun y hy _=>hy.ah,fun u _ hu=>?_,fun u hl hu y hy=>?_,sM,sM⟩
 ·simp at hy;subst hy;exact⟨.nil sM,h⟩
 ·simp at hu;subst hu;intro h;simp [zcF] at h
 ·simp at hu;cases hg:goal y
  ·rfl
  ·exfalso;obtain⟨z,b,a⟩:=zbe.dn (v:=[]) (u:=u) (by simpa using hy) hg hl;have:=b.ah;simp at this;subst this;exact h.2 u.length oM a
theorem zep.fin {v:List Nat}(h:zep d L goal start at_ v 0)(hL:∀ l∈L,l<6):Found d start goal L v:=by
 refine⟨h.letters,?_,fun u hu hlt x a=>?_⟩
 ·obtain⟨x,a⟩:=List.exists_mem_of_ne_nil _ h.some_;exact⟨x,(h.goes x a).1,(h.goes x a).2.1⟩
 ·rcases fQ u.length v.length with b|b|b
  ·exact h.least u hu oM x a
  ·have:=h.first u hu b hlt x a
   cases hg:goal x
   ·rfl
   ·exact absurd hg this
  ·have:=zim (u:=u) (v:=v) (fun l hl=>hL l (hu l hl)) (fun l hl=>hL l (h.letters l hl)) b;omega
theorem zep.exists_ {v:List Nat} (h:zep d L goal start at_ v (r+1)):∃ (k l:Nat),L[k]?=some l∧∃ x n,n∈at_∧x∈d n l∧Mn d L goal r x:=by
 obtain⟨n,a⟩:=List.exists_mem_of_ne_nil _ h.some_;obtain⟨l,f,y,g,b⟩:=(h.goes n a).2.next;obtain⟨k,c⟩:=eU f;exact⟨k,l,c,y,n,a,g,b⟩
theorem zep.step {v next:List Nat} (h:zep d L goal start at_ v (r+1))(hL:Rise L)(hk:L[k]?=some l)(hn:∀ x,x∈next↔∃ n∈at_,x∈d n l∧Mn d L goal r x)(hne:next≠[])
  (hno:∀ (j m:Nat),j<k->L[j]?=some m->∀ n∈at_,∀ x∈d n m,¬ Mn d L goal r x):zep d L goal start next (v++[l]) r:=by
 have t:∀ l∈L,l<6:=hL.1;have c:=dG hk;have f:∀ (u:List Nat),(∀ m∈u,m∈L)->u.length=v.length+1->∀ x,zbe d start u x->Dn d L goal r x->Mn d L goal r x:=by
  intro u hu hlen x hx hd;refine⟨hd,fun m hm hdm=>?_⟩;obtain⟨s,g,b,y,C,F⟩:=hdm.word hx;have:=h.least (u++s) (fun z hz=>by
   rcases List.mem_append.1 hz with a|a
   ·exact hu z a
   ·exact b z a) (by rw [eK];omega) y C
  rw [this] at F;cases F
 refine⟨fun x hx=>?_,fun x hx hd=>?_,fun u hu hlen hlt x hx hd=>?_,fun u hu hlen=>?_,?_,hne⟩
 ·obtain⟨n,g,b,C⟩:=(hn x).1 hx;exact⟨.snoc (h.goes n g).1 b,C⟩
 ·obtain⟨n,g,b⟩:=hx.inv;have E:n∈at_:=h.all n g ⟨l,c,x,b,hd⟩;exact (hn x).2 ⟨n,E,b,f (v++[l]) (fun m hm=>by
   rcases List.mem_append.1 hm with a|a
   ·exact h.letters m a
   ·rw [List.mem_singleton.1 a];exact c) sM x hx hd⟩
 ·rcases zY u with rfl|⟨u,m,rfl⟩
  ·simp at hlen
  ·obtain⟨n,g,b⟩:=hx.inv;have o:=hu m sM;have q:∀ z∈u,z∈L:=fun z hz=>hu z (by simp [hz]);have i:u.length=v.length:=by simpa using hlen
   have p:Dn d L goal (r+1) n:=⟨m,o,x,b,hd⟩;rw [zaI,zaI] at hlt;have H:=t m o;have G:=t l c
   by_cases hw:zcF u<zcF v
   ·exact h.first u q i hw n g p
   ·have e:zcF u=zcF v:=oM;obtain rfl:=zke _ u v (dI _) (fun z hz=>t z (q z hz)) (fun z hz=>t z (h.letters z hz)) e;obtain⟨j,B⟩:=eU o;have D:j<k:=by
     rcases fQ j k with a|a|a
     ·exact a
     ·subst a;rw [hk] at B;have:=Option.some.inj B;omega
     ·have:=hL.2 k j _ _ hk B a;omega
    exact hno j m D B n (h.all n g p) x b (f _ hu sM x hx hd)
 ·exact h.least u hu (by rw [eK,List.length_singleton] at hlen;omega)
 ·intro m hm;rcases List.mem_append.1 hm with a|a
  ·exact h.letters m a
  ·rw [List.mem_singleton.1 a];exact c
theorem lost_of (h:∀ m,¬ Dn d L goal m x):Lost d [x] goal L:=fun v hv y hy=>by
 cases hg:goal y
 ·rfl
 ·exfalso
  obtain⟨z,hz,hd⟩:=zbe.dn (v:=[]) (u:=v) (by simpa using hy) hg hv
  have:=hz.ah
  simp at this
  subst this
  exact h _ hd
theorem goes_congr {d':Nat->Nat->List Nat} {start:List Nat} (hs:∀ x∈start,x<N)(hd:∀ x l,x<N->l∈L->(∀ y,y∈d x l↔y∈d' x l)∧∀ y∈d x l,y<N) {v:List Nat}(hv:∀ l∈v,l∈L):∀ {x:Nat},(zbe d start v x↔zbe d' start v x)∧(zbe d start v x->x<N):=by
 have g:∀ n (v:List Nat),v.length=n->(∀ l∈v,l∈L)->∀ x,(zbe d start v x↔zbe d' start v x)∧(zbe d start v x->x<N):=by
  intro n
  induction n with
  |zero =>
   intro v hv _ x;obtain rfl:=eJ hv;exact⟨⟨fun h=>.nil h.ah,fun h=>.nil h.ah⟩,fun h=>hs x h.ah⟩
  |succ n ih =>
   intro v hn hv x;rcases zY v with rfl|⟨u,l,rfl⟩
   ·simp at hn
   ·have f:=hv l sM;have a:=ih u (by simpa using hn) (fun m hm=>hv m (by simp [hm]));refine⟨⟨fun h=>?_,fun h=>?_⟩,fun h=>?_⟩
    ·obtain⟨m,b,c⟩:=h.inv;exact .snoc ((a m).1.1 b) (((hd m l ((a m).2 b) f).1 x).1 c)
    ·obtain⟨m,b,c⟩:=h.inv;have i:=(a m).1.2 b;exact .snoc i (((hd m l ((a m).2 i) f).1 x).2 c)
    ·obtain⟨m,b,c⟩:=h.inv;exact (hd m l ((a m).2 b) f).2 x c
 exact fun {x}=>g v.length v rfl hv x
theorem zfv {l:List Nat}(h:l.Nodup) (hl:∀ x∈l,x<p):l.length<=p:=by
 have a:l ⊆ List.range p:=fun x hx=>List.mem_range.2 (hl x hx);have:=List.Nodup.length_le_of_subset h a;simpa using this
theorem Mn.lt (h:Mn d L goal n x)(hx:x<N)(hd:∀ x l,x<N->l∈L->∀ y∈d x l,y<N):n<N:=by
 have c:∀ n x,x<N->Mn d L goal n x->∃ b:List Nat,b.length=n+1∧b.Nodup∧∀ y∈b,y<N∧∃ m,m<=n∧Mn d L goal m y:=by
  intro n
  induction n with
  |zero=>intro x hx h;exact⟨[x],rfl,sM,fun y a=>by simp at a;subst a;exact⟨hx,0,dI _,h⟩⟩
  |succ n ih =>
   intro x hx h;obtain⟨l,r,y,a,k⟩:=h.next;obtain⟨b,f,g,o⟩:=ih y (hd x l hx r y a) k;refine⟨x :: b,by simp [f],List.nodup_cons.2 ⟨fun hm=>?_,g⟩,fun z j=>?_⟩
   ·obtain⟨_,m,s,i⟩:=o x hm;have:=h.uniq i;omega
   ·rcases List.mem_cons.1 j with rfl|j
    ·exact⟨hx,n+1,dI _,h⟩
    ·obtain⟨p,m,t,q⟩:=o z j;exact⟨p,m,oM,q⟩
 obtain⟨b,k,f,g⟩:=c n x hx h;have:=zfv f fun y a=>(g y a).1;omega
end
def IntP:Lay Int:=fun _ _ _ r n=>r=.int .i64 n
theorem IntP.ok:Lay.Ok IntP:=⟨fun h _ _=>h,fun h _ _=>h⟩
theorem Lst.ay (h:Reads W lo hi 1 A xs.length (ints xs)):Lst IntP W lo hi A xs:=⟨ints xs,h,fun i r x hr hx=>by
 simp only [ints,eM,hx,Option.map_some] at hr
 exact (Option.some.inj hr).symm⟩
theorem Lst.int (h:Lst IntP W lo hi A xs)(hk:k<xs.length):∃ b o x,A=some ⟨b,o,none⟩∧lo<=b∧b<hi∧Hid (xs[k]?=some x)∧W.cell? ⟨b,o+k,none⟩=some (.int .i64 x):=by
 obtain⟨b,o,r,x,e,a,c,d,f,g⟩:=h.get hk;exact⟨b,o,x,e,a,c,d,by rw [f,g]⟩
def nearL (rows:List (List Nat)) (ds:List Int) (k:Int):Bool:=rows.any fun ys=>ys.any fun y=>ds.getD y (-1)==k
theorem near_row {d:Nat->Nat->List Nat}   :nearL (L.map fun l=>d x l) ds (k:Int)=zjI d L ds k x:=by
 unfold nearL zjI;rw [List.any_map];rfl
theorem any_stop {α:Type} {l:List α} {p:α->Bool}  {x:α}(h:l[k]?=some x)(hp:p x=true):l.any p=true:=List.any_eq_true.2 ⟨x,dG h,hp⟩
theorem any_step {α:Type} {l:List α} {p:α->Bool}  {x:α}(h:l[k]?=some x)(hk:(l.take k).any p=false)(hp:p x=false):(l.take (k+1)).any p=false:=by
 rw [eG,h];simp [hk,hp]
theorem spec_l4Near {rows:List (List Nat)}  {k:Int} (h:Lst (LstP zbq) w lo hi A rows)(h':Lst IntP w lo' hi' B ds)(hr:rows.length=r)(hn:ds.length=n)(hb:∀ ys∈rows,∀ y∈ys,y<n) :
  Calls Tryz.prog 277 #[.slice A r c,.slice B n c',k] w fun e w'=>e=.returned (.bool (nearL rows ds k))∧w=w':=by
 have E:=za hb;have C:=za hr;have F:=za hn;have t:=h.len;have u:=h'.len;rw [hr] at t;rw [hn] at u;clear hb hr hn
 go_enter Tryz.func277,Tryz.ntmps277
 go_wp2
 go_loop [7,8] (fun i _=>∃ a:Nat,i=.int .i64 a∧a<=r∧Hid ((rows.take a).any (fun ys=>ys.any fun y=>ds.getD y (-1)==k)=false)) (fun i _=>r - (intOf i).toNat)
 case atStart=>exact⟨0,rfl,eC _,rfl⟩
 case round =>
  obtain⟨a,rfl,R,s⟩:=hrel
  by_cases hlt:a<r
  ·obtain⟨b,o,v,ys,rfl,_,_,l,S,L,Q,rfl,D⟩:=h.get (show a<rows.length by rw [C.out];exact hlt);have I:=D.len;go_wp2
   go_loop [8] (fun i=>∃ j:Nat,i=.int .i64 j∧j<=ys.length∧Hid ((ys.take j).any (fun y=>ds.getD y (-1)==k)=false)) (fun i=>ys.length - (intOf i).toNat)
   case atStart=>exact⟨0,rfl,eC _,rfl⟩
   case round =>
    obtain⟨j,rfl,T,d⟩:=hrel
    by_cases hlj:j<ys.length
    ·obtain⟨M,U,y,rfl,_,_,m,G⟩:=D.num hlj;have z:=E.out ys (dG l.out) y (dG m.out);obtain⟨O,V,v,rfl,_,_,J,H⟩:=h'.int (show y<ds.length by rw [F.out];exact z);have q:=za (show ds.getD y (-1)=v by rw [eE,J.out];rfl)
     by_cases hvk:v=k
     ·subst hvk;have f:=za (show nearL rows ds v=true from any_stop l.out (any_stop m.out (by rw [q.out];simp)));go_wp2;go_ret;exact⟨zu (by rw [f.out]),rfl⟩
     ·have x:(v==k)=false:=by simp;omega
      have g:=za (any_step (p:=fun y=>ds.getD y (-1)==k) m.out d.out (show (ds.getD y (-1)==k)=false by rw [q.out];exact x));go_wp2
      go_round
      case rel=>exact⟨j+1,gM,oM,g⟩
      case measure=>simp [intOf];omega
    ·obtain rfl:j=ys.length:=oM;rw [fB] at d;have g:=za (any_step (p:=fun ys=>ys.any fun y=>ds.getD y (-1)==k) l.out s.out d.out);go_wp2
     go_round
     case rel=>exact⟨a+1,gM,oM,g⟩
     case measure=>simp [intOf];omega
  ·obtain rfl:a=r:=oM;have f:=za (show nearL rows ds k=false by
    have:=s.out;rw [eF (by rw [C.out];exact dI _)] at this;exact this)
   go_wp2;go_ret;exact⟨zu (by rw [f.out]),rfl⟩
theorem zbG.known {d:Nat->Nat->List Nat}  {goal:Nat->Bool}   (h:zbG d L goal N k i ds)(hv:ds[i]?=some v)(h0:0<=v):¬ Mn d L goal k i:=fun hm=>by
 have h1:=h.2 i v hv
 rw [if_neg oM] at h1
 rcases h1 with ⟨h2,_⟩|⟨n,h2,_,h3⟩
 ·omega
 ·have:=h3.uniq hm
  omega
theorem zbG.neg {d:Nat->Nat->List Nat}  {goal:Nat->Bool}    (h:zbG d L goal N k i ds)(hv:ds[x]?=some v)(h0:v<0):v = -1:=by
 rcases h.2 x v hv with ⟨a,_⟩|⟨n,_,a,_⟩
 ·exact a
 ·omega
def RetDs (d:Nat->Nat->List Nat) (L:List Nat) (goal:Nat->Bool) (N base gd cap:Nat) (w:World) (e:Ending) (w':World):Prop:=
 e=.returned (.tuple #[])∧∃ ds',Hid (DsFin d L goal N ds')∧w'.ownsRow base 3 1 (.slice (some gd) N cap) N (ints ds')∧Frm (fun k=>k=gd) w w'
theorem spec_l4Dist {gd:Nat}  {d:Nat->Nat->List Nat}  {goal:Nat->Bool} {ds:List Int} (h:Lst P3 w lo hi A (mvs d L N))(hg:gd<lo∨hi<=gd) (zkf:w.ownsRow base 3 1 (.slice (some gd) N cap) N (ints ds))(hds:zbG d L goal N 1 0 ds)(hN:N<=1048576)(hd:∀ x l,x<N->l∈L->∀ y∈d x l,y<N) :
  Calls Tryz.prog 219 #[.slice A N c,.slice (some gd) N cap] w (RetDs d L goal N base gd cap w):=by
 have HM:=za (fun W (hW:Frm (fun k=>k=gd) w W)=>h.frm P3.ok hW (fun k F R e=>oM));have Q:=za hd;have z:=za zkf;have E:=za hds;clear h hd zkf hds
 go_enter Tryz.func219,Tryz.ntmps219
 go_wp2
 go_loopw [4,5,6] (fun m v _ wr=>∃ (k:Nat) (ds:List Int) (g:Bool),m=.bool g∧v=.int .i64 ((k:Int)+1)∧k<=N+1∧Hid (if g=true then zbG d L goal N (k+1) 0 ds∧k+ds.count (-1)<=N else DsFin d L goal N ds)∧wr.ownsRow base 3 1 (.slice (some gd) N cap) N (ints ds)∧Frm (fun k=>k=gd) w wr) (fun _ v _ _=>N+3 - (intOf v).toNat)
 case atStart=>exact⟨0,ds,true,rfl,rfl,oM,(show Hid _ from by
  rw [if_pos rfl];refine⟨E.out,?_⟩;have:=List.count_le_length (l:=ds) (a:=(-1:Int));rw [E.out.1] at this;omega),z.out,jG _ _⟩
 case round =>
  clear z E;clear ds;obtain⟨k,ds,g,rfl,rfl,hk,b,zkf,f⟩:=hrel;cases g
  ·have M:=za (show RetDs d L goal N base gd cap w (.returned (.tuple #[])) wr from ⟨rfl,ds,(show DsFin d L goal N ds by have:=b.out;simpa using this),zkf,f⟩);clear zkf;go_wp2;exact bodyPost_ret (v:=.tuple #[]) (by simp [results,Tryz.results219,go_sem]) rfl M.out
  ·obtain⟨B,S⟩:zbG d L goal N (k+1) 0 ds∧k+ds.count (-1)<=N:=by have:=b.out;simpa using this
   have t:=za B;clear b B;obtain⟨O,G⟩:∃ O,Hid (ds.count (-1)=O):=⟨_,rfl⟩;rw [G.out] at S;go_wp2
   go_loopw [4,6] (fun m i wr=>∃ (i':Nat) (ds:List Int) (g:Bool),m=.bool g∧i=.int .i64 i'∧i'<=N∧Hid (zbG d L goal N (k+1) i' ds∧ds.count (-1)+(if g=true then 1 else 0)<=O∧(g=false->∀ x,x<i'->¬ Mn d L goal (k+1) x))∧wr.ownsRow base 3 1 (.slice (some gd) N cap) N (ints ds)∧Frm (fun k=>k=gd) w wr) (fun _ i _=>N - (intOf i).toNat)
   case atStart=>exact⟨0,ds,false,rfl,rfl,eC _,(show Hid _ from ⟨t.out,by rw [G.out];simp,fun _ x hx=>oM⟩),zkf,f⟩
   case round =>
    clear t zkf f G;clear ds;obtain⟨i,ds,g,rfl,rfl,hi,b,zkf,f⟩:=hrel
    by_cases hlt:i<N
    ·have o:ds.length=N:=b.out.1.1;obtain⟨bi,oi,v,hA,_,_,J,X⟩:=(Lst.ay (xs:=ds) (by rw [o];exact eW zkf)).int (show i<ds.length by omega);obtain⟨rfl,rfl⟩:gd=bi∧0=oi:=by injection hA with e;injection e with e1 e2;exact⟨e1,e2⟩
     rw [eO] at X;clear hA
     by_cases hv0:v<0
     ·have Z:=b.out.1.neg J.out hv0;subst Z;obtain⟨bm,om,r,V,rfl,_,_,T,ah,Ar,cr,rfl,I⟩:=(HM.out wr f).get (show i<(mvs d L N).length by rw [zdN];exact hlt);have C:=za (show V=L.map fun l=>d i l by
       have F:=T.out;rw [mvs,eM,iB hlt] at F;exact (Option.some.inj F).symm)
      have s:=za (show nearL V ds (k:Int)=zjI d L ds k i by rw [C.out];exact near_row);have q:=Lst.ay (xs:=ds) (by rw [o];exact eW zkf);have HC:=za (spec_l4Near (c:=cr) (c':=cap) (k:=(k:Int)) I q rfl o (fun ys hys y hy=>by
       rw [C.out] at hys;obtain⟨l,hl,rfl⟩:=List.mem_map.1 hys;exact Q.out i l hlt hl y hy))
      have ai:(k:Int)+1 - 1=(k:Int):=oM;cases hnb:zjI d L ds k i
      ·have H:=za (s.out.trans hnb);have n:=za hnb;clear hnb I q;have j:=za (show zbG d L goal N (k+1) (i+1) ds∧ds.count (-1)+(if g=true then 1 else 0)<=O∧(g=false->∀ x,x<i+1->¬ Mn d L goal (k+1) x) from
        ⟨b.out.1.keep Q.out J.out hv0 n.out,b.out.2.1,fun hm x hx=>by
         by_cases e:x=i
         ·subst e;intro hM;rw [(b.out.1.near Q.out J.out hv0).2 hM] at n;exact absurd n.out dM
         ·exact b.out.2.2 hm x oM⟩)
       go_wp2_with (go_at_call 277;with_reducible refine HC.out.mono ?_;rw [H.out];rintro e w4 ⟨rfl,rfl⟩)
       go_roundw
       case rel=>exact⟨i+1,ds,g,rfl,gM,oM,j,zkf,f⟩
       case measure=>simp [intOf];omega
      ·have H:=za (s.out.trans hnb);have n:=za hnb;clear hnb I q;have j:=za (show zbG d L goal N (k+1) (i+1) (ds.set i ((k+1:Nat):Int))∧(ds.set i ((k+1:Nat):Int)).count (-1)+(if true=true then 1 else 0)<=O∧(true=false->∀ x,x<i+1->¬ Mn d L goal (k+1) x) from
        ⟨b.out.1.put Q.out J.out hv0 n.out,by
         have F:=set_count (u:=((k+1:Nat):Int)) J.out rfl oM;have R:=b.out.2.1;simp only [if_true];cases g
         ·simp at R;omega
         ·simp at R;omega,fun h=>by cases h⟩)
       have f0:=zkf.frozenAt i;have U:=zkf.stored i (.int .i64 ((k:Int)+1));have D:(ints ds).set i (.int .i64 ((k:Int)+1))=ints (ds.set i ((k+1:Nat):Int)):=by
        rw [ints,ints,List.map_set];rfl
       rw [D] at U;clear D;go_wp2_with (go_at_call 277;with_reducible refine HC.out.mono ?_;rw [H.out];rintro e w4 ⟨rfl,rfl⟩)
       go_roundw
       case rel=>exact⟨i+1,_,true,rfl,gM,oM,j,U.1,f.cell (p:=⟨gd,i,none⟩) rfl _⟩
       case measure=>simp [intOf];omega
     ·have j:=za (show zbG d L goal N (k+1) (i+1) ds∧ds.count (-1)+(if g=true then 1 else 0)<=O∧(g=false->∀ x,x<i+1->¬ Mn d L goal (k+1) x) from
       ⟨b.out.1.skip J.out oM,b.out.2.1,fun hm x hx=>by
        by_cases e:x=i
        ·subst e;exact b.out.1.known J.out oM
        ·exact b.out.2.2 hm x oM⟩)
      go_wp2;go_roundw
      case rel=>exact⟨i+1,ds,g,rfl,gM,oM,j,zkf,f⟩
      case measure=>simp [intOf];omega
    ·obtain rfl:N=i:=oM;have M:=za (show if g=true then zbG d L goal N (k+1+1) 0 ds∧k+1+ds.count (-1)<=N else DsFin d L goal N ds by
      obtain⟨F,R,h3⟩:=b.out;cases g
      ·rw [if_neg dM];exact F.fin Q.out (h3 rfl)
      ·rw [if_pos rfl];refine⟨F.round_,?_⟩;simp at R;omega)
     have Y:k+1<=N+1:=oM;go_wp2;go_roundw
     case rel=>exact⟨k+1,ds,g,rfl,gM,Y,M,zkf,f⟩
     case measure=>simp [intOf];omega
def Rd (w:World) (R M:Nat):Prop:=
 ∃ (A:Option Addr) (n c p:Nat),p<=M∧n<=2000∧Blk w R 163 #[.slice A n c,p]∧(0<n->∃ g o,A=some ⟨g,o,none⟩∧g<R∧∀ j,j<n->∃ b:Nat,b<256∧w.cell? ⟨g,o+j,none⟩=some (.int .u8 b))
def Dr (R:Nat) (w w':World):Prop:=Frm (fun k=>k=R) w w'
theorem Dr.refl (R:Nat) (w:World):Dr R w w:=jG _ _
theorem Dr.trans {c:World}(h:Dr R a b) (k:Dr R b c):Dr R a c:=Frm.trans h k
theorem Dr.ext {c:World}(h:Dr R a b) (k:Ext b c):Dr R a c:=Frm.ext h k
theorem Ext.dr (h:Ext a b):Dr R a b:=h.ak
theorem Dr.drew (h:Dr R a w):Dr R a w.drew:=⟨h.os,h.tape,h.output,h.size,h.block⟩
theorem Dr.drewN (h:Dr R a w) (n:Nat):Dr R a (w.drewN n):=⟨h.os,h.tape,h.output,h.size,h.block⟩
theorem Dr.alloc (h:Dr R a w) (o:Obj):Dr R a (w.alloc o):=h.ext ((dE _).alloc _)
theorem Dr.ag (h:Dr R a w) {p:Addr}(hp:a.heap.size<=p.block) (u:Value):Dr R a (w.setCell p u):=
 ⟨h.os,h.tape,h.output,by simpa [World.setCell] using h.size,fun k hk hn=>(Below.heap_setCell _ _ _ _ oM).trans (h.block k hk hn)⟩
theorem Dr.grown {row:Option Nat}(h:Dr R a w)(hg:w.grownBy w' row)(hr:∀ k,row=some k->a.heap.size<=k):Dr R a w':=
 ⟨hg.os.trans h.os,hg.tape.trans h.tape,hg.output.trans h.output,eI h.size hg.size,
  fun k hk hn=>(hg.block k (eV hk h.size) (fun e=>by have:=hr k e.symm;omega)).trans (h.block k hk hn)⟩
theorem Blk.dr (h:Blk w g t cs)(hb:Dr R w w')(hg:g≠R):Blk w' g t cs:=h.frm hb hg
theorem Dr.aa (h:Dr R w w') {p:Addr} {v:Value}(hv:w.cell? p=some v)(hp:p.block≠R):w'.cell? p=some v:=
 (World.cell?_of_block (w:=w) (h.block _ (World.block_lt_of_cell? w p hv) hp)).trans hv
theorem Rd.ext (h:Rd w R M)(hb:Ext w w'):Rd w' R M:=by
 obtain⟨A,n,c,p,m,l,f,q⟩:=h;refine⟨A,n,c,p,m,l,f.ext hb,fun h0=>?_⟩;obtain⟨g,o,e,k,i⟩:=q h0;exact⟨g,o,e,k,fun j hj=>by obtain⟨b,a,d⟩:=i j hj;exact⟨b,a,hb.aa d⟩⟩
theorem Rd.more (h:Rd w R M)(hM:M<=N):Rd w R N:=by
 obtain⟨A,n,c,p,a,r⟩:=h;exact⟨A,n,c,p,eI a hM,r⟩
theorem Rd.lt (h:Rd w R M):R<w.heap.size:=by
 obtain⟨A,n,c,p,_,_,a,_⟩:=h;exact a.lt
theorem Rd.frm {S:Nat->Prop}  (h:Rd w R M)(hb:Frm S w w')(hS:∀ k,k<=R->¬ S k):Rd w' R M:=by
 obtain⟨A,n,c,p,q,m,f,r⟩:=h;refine⟨A,n,c,p,q,m,f.frm hb (hS R (dI _)),fun h0=>?_⟩;obtain⟨g,o,e,l,i⟩:=r h0;exact⟨g,o,e,l,fun j hj=>by
  obtain⟨b,d,a⟩:=i j hj;exact⟨b,d,(World.cell?_of_block (w:=w) (hb.block g (World.block_lt_of_cell? w _ a) (hS g oM))).trans a⟩⟩
def RetPick (R M:Nat) (n:Int) (w:World) (e:Ending) (w':World):Prop:=∃ k:Nat,e=.returned (.int .i64 k)∧(1<=n->(k:Int)<n)∧(n<1->k=0)∧Rd w' R (M+1)∧Dr R w w'
theorem bits_xor_nat {a b:Nat}(ha:a<4611686018427387904)(hb:b<4611686018427387904):bits .xor .i64 (a:Int) (b:Int)=((a ^^^ b:Nat):Int):=by
 have c:a ^^^ b<2 ^ 62:=Nat.xor_lt_two_pow (by simpa using ha) (by simpa using hb);show IntKind.i64.wrap ((BitVec.ofInt 64 (a:Int) ^^^ BitVec.ofInt 64 (b:Int)).toNat:Int)=_;rw [BitVec.toNat_xor,zcA a oM,zcA b oM,IntKind.wrap_i64];omega
theorem zH {n:Int} (h:Rd w R M)(hM:M<=1000000000) :
  Calls Tryz.prog 73 #[.pointer (some R),n] w (RetPick R M n w):=by
 obtain⟨A,m,c,p,hp,hm,u,D⟩:=h;have c0:=u.cell 0;have c1:=u.cell 1;have f1:=u.frozen 1;have r:=u.ab 1 (.int .i64 ((p:Int)+1));have f:=Frm.setCell w R 1 (.int .i64 ((p:Int)+1));have az:(p:Int)<=1000000000:=oM;have q:Hid (Rd (w.setCell ⟨R,1,none⟩ (.int .i64 ((p:Int)+1))) R (M+1)):=by
  refine za ⟨A,m,c,p+1,oM,hm,by simpa using r,fun h0=>?_⟩;obtain⟨g,o,e,U,G⟩:=D h0;exact⟨g,o,e,U,fun j hj=>by
   obtain⟨b,v,s⟩:=G j hj;exact⟨b,v,(World.cell?_of_block (w:=w) (f.block g (World.block_lt_of_cell? w _ s) (by show ¬ g=R;omega))).trans s⟩⟩
 simp only [List.getElem?_toArray,List.getElem?_cons_zero,List.getElem?_cons_succ] at c0 c1
 by_cases hn:n<1
 ·go_enter Tryz.func73,Tryz.ntmps73
  go_wp2;go_ret;exact⟨0,rfl,fun h=>oM,fun _=>rfl,q.out,f⟩
 ·by_cases h0:m=0
  ·subst h0
   go_enter Tryz.func73,Tryz.ntmps73
   go_wp2;go_ret;exact⟨0,rfl,fun h=>oM,fun _=>rfl,q.out,f⟩
  ·obtain⟨k,rfl⟩:∃ k:Nat,n=k:=⟨n.toNat,oM⟩;have av:(1:Int)<=(k:Int):=oM;obtain⟨g,o,rfl,U,G⟩:=D oM;have O:¬ g=R:=oM;have ax:(0:Int)<(m:Int):=oM;have ay:(m:Int)<=2000:=oM;have au:((m:Int)==0)=false:=by simp;omega
   have L:=za G;clear G D
   by_cases hpm:p<m
   ·obtain⟨b,hb,ar⟩:=L.out p hpm;have aq:(b:Int)<256:=oM;have C:(p:Int)<(m:Int):=oM;have d:=za (iN b k)
    go_enter Tryz.func73,Tryz.ntmps73
    go_wp2;go_ret;exact⟨b % k,zap d.out.symm,fun _=>by rw [d.out];exact Int.emod_lt_of_pos _ oM,fun h=>oM,q.out,f⟩
   ·have Q:p % m<m:=iQ _ oM;have S:(p*7+3) % m<m:=iQ _ oM;have aA:p / m<=p:=Nat.div_le_self _ _;obtain⟨i,v,z⟩:=L.out _ Q;obtain⟨l,s,B⟩:=L.out _ S;have H:(p:Int).tmod (m:Int)=((p % m:Nat):Int):=by rw [Int.tmod_eq_emod_of_nonneg oM];exact (iN p m).symm
    have I:((p:Int)*7+3).tmod (m:Int)=(((p*7+3) % m:Nat):Int):=by rw [Int.tmod_eq_emod_of_nonneg oM];rw [iN];rfl
    have J:(p:Int).tdiv (m:Int)=((p / m:Nat):Int):=by rw [Int.tdiv_eq_ediv_of_nonneg oM];exact (jL p m).symm
    have C:(m:Int)<=(p:Int):=oM;have t:∀ j,(w.setCell ⟨R,1,none⟩ (.int .i64 ((p:Int)+1))).cell? ⟨g,j,none⟩=w.cell? ⟨g,j,none⟩:=fun j=>by
     refine World.cell?_of_block ?_;exact Below.heap_setCell _ _ _ _ (fun h=>O h)
    have e1:=(t _).trans z;have e2:=(t _).trans B;have d0:(w.setCell ⟨R,1,none⟩ (.int .i64 ((p:Int)+1))).cell? R=some (.slice (some ⟨g,o,none⟩) m c):=by simpa using r.cell 0
    have T1:=za H;have T2:=za I;have T3:=za J;clear t z B H I J u r;generalize p % m=Y at *;generalize (p*7+3) % m=Z at *;generalize p / m=F at *;obtain⟨x,D⟩:∃ x:Nat,x=i*131+l*1117+p*29+F*53:=⟨_,rfl⟩;have aB:x<100000000000:=oM;obtain⟨y,X⟩:∃ y:Nat,Hid (x ^^^ (x / 64)=y):=⟨_,rfl⟩;have E:=za (show bits .xor .i64 (x:Int) ((x:Int) / 64)=(y:Int) by rw [← X.out];exact bits_xor_nat (a:=x) (b:=x / 64) oM oM);have aD:(y:Int)<1099511627776:=by
     have:x ^^^ (x / 64)<2 ^ 40:=Nat.xor_lt_two_pow oM oM;rw [X.out] at this;omega
    have d:=za (iN y k);have T:(i:Int)*131+(l:Int)*1117+(p:Int)*29+(F:Int)*53=(x:Int):=oM;have HX:=za T;clear D T
    go_enter Tryz.func73,Tryz.ntmps73
    go_wp2;generalize w.setCell ⟨R,1,none⟩ (.int .i64 ((p:Int)+1))=w1 at *;have H:=T1.out;have I:=T2.out;have J:=T3.out;have a1:IntKind.i64.wrap ((p:Int)*7)=(p:Int)*7:=IntWalk.i64_in _ oM;have a2:IntKind.i64.wrap ((p:Int)*7+3)=(p:Int)*7+3:=IntWalk.i64_in _ oM;have a3:IntKind.i64.wrap ((i:Int)*131)=(i:Int)*131:=IntWalk.i64_in _ oM;have a4:IntKind.i64.wrap ((l:Int)*1117)=(l:Int)*1117:=IntWalk.i64_in _ oM;have a5:IntKind.i64.wrap ((i:Int)*131+(l:Int)*1117)=(i:Int)*131+(l:Int)*1117:=IntWalk.i64_in _ oM;have a6:IntKind.i64.wrap ((p:Int)*29)=(p:Int)*29:=IntWalk.i64_in _ oM;have a7:IntKind.i64.wrap ((i:Int)*131+(l:Int)*1117+(p:Int)*29)=(i:Int)*131+(l:Int)*1117+(p:Int)*29:=IntWalk.i64_in _ oM;have a8:IntKind.i64.wrap ((F:Int)*53)=(F:Int)*53:=IntWalk.i64_in _ oM;have a9:IntKind.i64.wrap ((i:Int)*131+(l:Int)*1117+(p:Int)*29+(F:Int)*53)=(x:Int):=by rw [HX.out];exact IntWalk.i64_in _ oM
    have i1:(Y:Int)<(m:Int):=oM;have i2:(Z:Int)<(m:Int):=oM;have i3:(0:Int)<=(Y:Int):=oM;have i4:(0:Int)<=(Z:Int):=oM
    go_quiet (fail)
    clear a1 a2 a3 a4 a5 a6 a7 a8 a9 H I J;have aC:=E.out;have V:(x:Int)<100000000000:=oM;go_wp2;go_ret;exact⟨y % k,zap d.out.symm,fun _=>by rw [d.out];exact Int.emod_lt_of_pos _ oM,fun h=>oM,q.out,Dr.drewN f _⟩
def zM (l:List ByteArray):List Value:=l.map Value.string
theorem zaR (l:List ByteArray):(zM l).length=l.length:=by simp [zM]
theorem Reads.dr {size:Nat}  {xs:List Value}(h:Reads w lo hi size A n xs)(hb:Dr R w w')(hR:R<lo):Reads w' lo hi size A n xs:=
 h.frm hb (fun k h1 _ h2=>oM)
def RetNum (R M:Nat) (l:List Int) (w:World) (e:Ending) (w':World):Prop:=∃ x,x∈l∧e=.returned (.int .i64 x)∧Rd w' R (M+1)∧Dr R w w'
theorem l19Rd_num {l:List Int} (h:Rd w R M)(hM:M<=1000000000)(hL:Reads w lo hi 1 A n (ints l))(hlo:R<lo)(hn:0<n) :
  Calls Tryz.prog 163 #[.pointer (some R),.slice A n c] w (RetNum R M l w):=by
 have g:=hL.len;have d:(1:Int)<=(n:Int):=oM
 go_enter Tryz.func163,Tryz.ntmps163
 go_wp2_with fail
 refine (zH h hM).mono ?_;rintro e q ⟨k,rfl,a,_,j,f⟩;have i:=a d;have b:k<n:=oM;obtain⟨o,x,rfl,_,_,m,p⟩:=(hL.dr f hlo).int b;clear a;go_wp2_with fail
 go_ret;exact⟨x,dG m.out,rfl,j,f⟩
def Bytes (w:World) (A:Option Addr) (n:Nat):Prop:=0<n->∃ g o,A=some ⟨g,o,none⟩∧g<w.heap.size∧∀ j,j<n->∃ b:Nat,b<256∧w.cell? ⟨g,o+j,none⟩=some (.int .u8 b)
theorem Bytes.ext (h:Bytes w A n)(hb:Ext w w'):Bytes w' A n:=fun h0=>by
 obtain⟨g,o,e,hg,hc⟩:=h h0
 exact⟨g,o,e,eV hg hb.size,fun j hj=>by obtain⟨b,h1,h2⟩:=hc j hj;exact⟨b,h1,hb.aa h2⟩⟩
def RetOpen (w:World) (e:Ending) (w':World):Prop:=∃ R,e=.returned (.pointer (some ⟨R,0,none⟩))∧w.heap.size<=R∧Rd w' R 0∧Ext w w'
theorem spec_l19Open (h:Bytes w A n)(hn:n<=9223372036854775807)(hc:n<=c)(hc2:c<=9223372036854775807) :
  Calls Tryz.prog 48 #[.slice A n c] w (RetOpen w):=by
 by_cases hb:2000<n
 ·obtain⟨g,o,rfl,k,a⟩:=h oM;have d:=za a;clear a h;have f:(2000:Int)<(n:Int):=oM;have i:(2000:Int)<=(c:Int):=oM
  go_enter Tryz.func48,Tryz.ntmps48
  go_wp2;go_ret;refine⟨w.heap.size,rfl,dI _,⟨some ⟨g,o,none⟩,2000,c,0,oM,oM,eX _ _ _,fun _=>⟨g,o,rfl,k,fun j hj=>?_⟩⟩,(dE _).alloc _⟩;obtain⟨b,f,i⟩:=d.out j oM;exact⟨b,f,((dE w).alloc _).aa i⟩
 ·have l:=za h;clear h;have f:(n:Int)<=2000:=oM
  go_enter Tryz.func48,Tryz.ntmps48
  go_wp2;go_ret;refine⟨w.heap.size,rfl,dI _,⟨A,n,c,0,oM,oM,eX _ _ _,fun h0=>?_⟩,(dE _).alloc _⟩;obtain⟨g,o,e,k,hc⟩:=l.out h0;exact⟨g,o,e,k,fun j hj=>by obtain⟨b,f,i⟩:=hc j hj;exact⟨b,f,((dE w).alloc _).aa i⟩⟩
def RetStr (L:Nat) (w:World) (e:Ending) (w':World):Prop:=∃ s:ByteArray,e=.returned (.string s)∧s.size<=L∧Ext w w'
theorem zjs (w:World) (x:Int):(convert 22 9 (.slice (some w.heap.size) 1 1)).run Tryz.prog (w.alloc (.cells #[.int .u8 x] 5))=.ok (.string (strOfNums [x])) (w.alloc (.cells #[.int .u8 x] 5)):=
 run_convert_bytes_arg _ _ 5 Tryz.underlying22 Tryz.underlying5 w.heap.size 0 1 1 [x] rfl (fun i hi=>by
  obtain rfl:i=0:=oM
  rw [(eX w 5 #[.int .u8 x]).cell];rfl) _ Tryz.underlying9
theorem zeW (x:Int):(strOfNums [x]).size=1:=by simp [strOfNums];rfl
theorem zhY {l:Int} (h0:0<=l)(h1:l<6) :
  Calls Tryz.prog 138 #[l] w (RetStr 1 w):=by
 have a:=zjs w
 go_enter Tryz.func138,Tryz.ntmps138
 go_wp2;go_ret;exact⟨_,rfl,Nat.le_of_eq (zeW _),(dE _).alloc _⟩
theorem zbO {a:Nat} (ha:a<64) :
  Calls Tryz.prog 291 #[a] w (RetStr 6 w):=by
 have m:Sm a:=tM;have u:=za (show decide (0<=(a:Int)∧(a:Int)<=63)=true by simp;omega)
 by_cases h0:a=0
 ·subst h0;rw [show ((0:Nat):Int)=0 from rfl];have g:=za (show decide ((0:Int)<=0∧(0:Int)<=63)=true by decide)
  go_enter Tryz.func291,Tryz.ntmps291
  go_wp2_with (go_at_call 142;refine (zS _ _).mono ?_;rw [g.out];rintro e D ⟨rfl,rfl⟩)
  go_ret;exact⟨_,rfl,dM,dE _⟩
 ·have r:((a:Int)==0)=false:=by simp;omega
  go_enter Tryz.func291,Tryz.ntmps291
  go_wp2_with fail
  refine (zS _ _).mono ?_;rw [u.out];rintro e D ⟨rfl,rfl⟩;go_wp2_with fail
  refine (zah a m _).mono ?_;rintro e E ⟨B,d,rfl,c,n⟩;have y:=zA a 6;have h:=za (fun k (p:k∈letters a 6)=>(zef.1 p).1);have j:=eW c;clear c;generalize letters a 6=f at *;go_wp2_with fail
  go_loopw [3,5] (fun v i wr=>∃ k:Nat,k<=f.length∧i=.int .i64 k∧∃ s:ByteArray,v=.string s∧s.size<=k∧Ext E wr) (fun _ i _=>f.length - (intOf i).toNat)
  case atStart=>exact⟨0,eC _,rfl,_,rfl,dI _,dE _⟩
  case round =>
   obtain⟨k,p,rfl,s,rfl,G,b⟩:=hrel
   by_cases hlt:k<f.length
   ·obtain⟨F,l,rfl,_,_,x,z⟩:=(j.ext b).nat hlt;have q:=h.out l (dG x.out);go_wp2_with fail
    refine (zhY (l:=(l:Int)) oM oM).mono ?_;rintro e I ⟨t,rfl,H,o⟩;have C:s.size+t.size<=7:=oM;go_wp2_with fail
    go_roundw
    case rel=>exact⟨k+1,oM,gM,_,rfl,by rw [ByteArray.size_append];omega,b.trans o⟩
    case measure=>simp [intOf];omega
   ·obtain rfl:k=f.length:=oM;go_wp2_with fail
    go_ret;exact⟨s,rfl,oM,n.trans b⟩
def RetAl (w:World) (e:Ending) (w':World):Prop:=∃ (a:Nat) (ok:Bool),e=.returned (.tuple #[a,.bool ok])∧a<64∧Ext w w'
theorem zdx {x:ByteArray}  :
  Calls Tryz.prog 251 #[x] w (RetAl w):=by
 go_enter Tryz.func251,Tryz.ntmps251
 go_wp2_with fail
 go_loopw [4] (fun i wr=>∃ k:Nat,k<=64∧i=.int .i64 k∧Ext w wr) (fun i _=>64 - (intOf i).toNat)
 case atStart=>exact⟨0,eC _,rfl,dE _⟩
 case round =>
  obtain⟨k,c,rfl,a⟩:=hrel
  by_cases hlt:k<64
  ·go_wp2_with fail
   refine (zbO hlt).mono ?_;rintro e f ⟨t,rfl,d,b⟩;cases hxt:t.toList==x.toList
   ·go_wp2_with fail
    go_roundw
    case rel=>exact⟨k+1,oM,gM,a.trans b⟩
    case measure=>simp [intOf];omega
   ·go_wp2_with fail
    go_ret2;exact⟨k,true,rfl,hlt,a.trans b⟩
  ·obtain rfl:k=64:=oM;go_wp2_with fail
   go_ret2;exact⟨0,false,rfl,oM,a⟩
theorem zek (hn:n<100) :
  Calls Tryz.prog 292 #[n] w (RetStr 2 w):=by
 have j:(n:Int)<100:=oM
 go_enter Tryz.func292,Tryz.ntmps292
 go_wp2_with fail
 go_loopw [0,3] (fun n' v wr=>∃ (m:Nat) (s:ByteArray),n'=.int .i64 m∧v=.string s∧(m<100∧s.size=0∨m<10∧s.size<=1)∧Ext w wr) (fun n' _ _=>(intOf n').toNat)
 case atStart=>exact⟨n,_,rfl,rfl,Or.inl ⟨hn,rfl⟩,dE _⟩
 case round =>
  obtain⟨m,s,rfl,rfl,b,d⟩:=hrel;have g:m<100:=oM;have l:=zjs wr;have k:=zeW
  by_cases hlt:9<m
  ·have c:s.size=0:=oM;have a:=za (jL m 10);have h:(9:Int)<(m:Int):=oM;have i:s.size<=1:=oM;have f:=za c;clear b c;go_wp2_with fail
   go_roundw
   case rel=>exact⟨m / 10,_,by rw [a.out];rfl,rfl,Or.inr ⟨oM,by rw [ByteArray.size_append,zeW,f.out];omega⟩,d.alloc _⟩
   case measure=>simp [intOf];omega
  ·have h:(m:Int)<=9:=oM;have i:s.size<=1:=oM;clear b;go_wp2_with fail
   go_ret;exact⟨_,rfl,by rw [ByteArray.size_append,zeW];omega,d.alloc _⟩
theorem lbs_snoc (v:List Nat) (l:Nat):lbs (v++[l])=lbs v++[((97+l:Nat):Int)]:=by simp [lbs]
theorem zgZ (a b:List Int):strOfNums (a++b)=strOfNums a++strOfNums b:=by
 apply ByteArray.ext;simp [strOfNums,ByteArray.data_append]
def wstr (v:List Nat):ByteArray:=strOfNums (lbs v)
theorem wstr_snoc (v:List Nat) (l:Nat):wstr (v++[l])=wstr v++strOfNums [((97+l:Nat):Int)]:=by rw [wstr,lbs_snoc,zgZ];rfl
theorem zil (v:List Nat):(wstr v).size=v.length:=by rw [wstr,strOfNums_size];simp [lbs]
theorem zfm (h1:l<6) :
  Calls Tryz.prog 138 #[l] w fun e w'=>e=.returned (.string (strOfNums [((97+l:Nat):Int)]))∧Ext w w':=by
 have b:=zjs w;have a:IntKind.u8.wrap (97+(l:Int))=((97+l:Nat):Int):=by rw [IntKind.wrap_u8];omega
 go_enter Tryz.func138,Tryz.ntmps138
 go_wp2;go_ret;exact⟨by first|rfl|(rw [a];rfl)|simp [a],(dE _).alloc _⟩
def RetClo (w:World) (d:Nat->Nat->List Nat) (ds:List Int) (at_:List Nat) (l:Nat) (r:Int) (N:Nat) (e:Ending) (w':World):Prop:=
 ∃ nx:List Nat,zbI w nx e w'∧Hid (nx.length<=N∧∀ x,x∈nx↔∃ n∈at_,x∈d n l∧ds[x]?=some r)
theorem zjU {lo2 hi2 c2:Nat} {C:Option Addr} {d:Nat->Nat->List Nat}     {r:Int} (h:Lst P3 w lo hi A (mvs d L N))(h':Lst IntP w lo' hi' B ds)(h2:Lst zbq w lo2 hi2 C at_)(hm:at_.length=m)(hat:∀ n∈at_,n<N)(hl:L[k]?=some l)(hds:ds.length=N)(hN:N<=1048576)(hd:∀ x l,x<N->l∈L->∀ y∈d x l,y<N) :
  Calls Tryz.prog 221 #[.slice A N c,.slice B N c',.slice C m c2,k,r] w (RetClo w d ds at_ l r N):=by
 have HM:=za (fun W (hW:Ext w W)=>h.ext P3.ok hW);have HD:=za (fun W (hW:Ext w W)=>h'.ext IntP.ok hW);have HA:=za (fun W (hW:Ext w W)=>h2.ext zbq.ok hW);have Hd:=za (fun x o=>hd x l o (dG hl));have ag:=za hat;have Hl:=za hl;have Hm:=za hm;have G:=za hds;have ak:=h2.len;rw [hm] at ak;have ai:k<L.length:=(List.getElem?_eq_some_iff.1 hl).1;have O:∀ n,n<N->(L.map fun l=>d n l)[k]?=some (d n l):=fun n _=>by rw [eM,hl];rfl
 have af:=za O;clear h h' h2 hd hat hl hm hds O
 go_enter Tryz.func221,Tryz.ntmps221
 go_upto_region 2 with fail
 have aa:=(dE w).alloc (.cells #[] 3);have u:=World.ownsRow_lit (base:=w.heap.size) (e:=3) (size:=1) w #[] 0 (dI _) lM rfl;generalize hg1:(some ⟨w.heap.size,0,none⟩:Option Addr)=A1 at *;clear hg1;generalize w.alloc _=w0 at *;go_wp2_with fail
 go_loopw [11,12,13,14] (fun v i _ _ wr=>∃ (a:Nat) (f:List Nat),i=.int .i64 a∧a<=m∧Hid (f.Nodup∧∀ x,x∈f↔∃ n∈at_.take a,x∈d n l∧ds[x]?=some r)∧wr.ownsRow w.heap.size 3 1 v f.length (zac f)∧Ext w wr) (fun _ i _ _ _=>m - (intOf i).toNat)
 case atStart=>exact⟨0,[],rfl,eC _,(show Hid _ from ⟨sM,sM⟩),by simpa [zac] using u,aa⟩
 case round =>
  clear u aa;obtain⟨a,f,rfl,ha,b,g,o⟩:=hrel;obtain⟨A0,M,rfl⟩:=zi g
  by_cases hlt:a<m
  ·obtain⟨ba,oa,n,rfl,_,_,hn,Q⟩:=(HA.out w (dE _)).num (show a<at_.length by rw [Hm.out];exact hlt);have D:=ag.out n (dG hn.out);obtain⟨bm,om,v,ad,rfl,_,_,Y,S,Ar,cr,rfl,Z⟩:=(HM.out w (dE _)).get (show n<(mvs d L N).length by rw [zdN];exact D);have E:=za (show ad=L.map fun l=>d n l by
    have p:=Y.out;rw [mvs,eM,iB D] at p;exact (Option.some.inj p).symm)
   have aj:k<ad.length:=by rw [E.out,eT];exact ai
   obtain⟨br,aG,v,s,rfl,_,_,an,U,Ay,cy,rfl,J⟩:=Z.get aj;have F:=za (show s=d n l by
    have p:=an.out;rw [E.out,af.out n D] at p;exact (Option.some.inj p).symm)
   have aq:=J.len;have HY:=za (fun W (hW:Ext w W)=>J.ext zbq.ok hW);have ab:=za (show ∀ y∈s,y<N by rw [F.out];exact Hd.out n D);have al:=za (show at_.take (a+1)=at_.take a++[n] by rw [eG,hn.out];rfl);have R:=o.aa Q;have T:=o.aa S;have V:=o.aa U;clear J Q S U Z;go_wp2_with fail
   clear R T V
   go_loopw [11,14] (fun v i wr2=>∃ (j:Nat) (f:List Nat),i=.int .i64 j∧j<=s.length∧Hid (f.Nodup∧∀ x,x∈f↔(∃ n∈at_.take a,x∈d n l∧ds[x]?=some r)∨(x∈s.take j∧ds[x]?=some r))∧wr2.ownsRow w.heap.size 3 1 v f.length (zac f)∧Ext w wr2) (fun _ i _=>s.length - (intOf i).toNat)
   case atStart=>exact⟨0,f,rfl,eC _,(show Hid _ from ⟨b.out.1,fun x=>by rw [b.out.2 x];simp⟩),g,o⟩
   case round =>
    clear g o b;obtain⟨j,f,rfl,hj,b,g,o⟩:=hrel;obtain⟨A0,M,rfl⟩:=zi g
    by_cases hlj:j<s.length
    ·obtain⟨aC,oy,y,rfl,_,_,hy,aE⟩:=(HY.out _ o).num hlj;have am:=ab.out y (dG hy.out);obtain⟨bd,od,v,rfl,_,_,hv,aD⟩:=(HD.out _ o).int (show y<ds.length by rw [G.out];exact am);have I:=za (show s.take (j+1)=s.take j++[y] by rw [eG,hy.out];rfl)
     by_cases hvr:v=r
     ·have ah:=za (show ds[y]?=some r by rw [hv.out,hvr]);subst hvr;have t:=Lst.ai g;have HI:=za (spec_l4In (c:=M) (x:=y) t rfl);have au:f.length<=N:=zfv b.out.1 fun x o=>by
       rcases (b.out.2 x).1 o with ⟨_,_,_,p⟩|⟨_,p⟩<;>· have:=(List.getElem?_eq_some_iff.1 p).1;rw [G.out] at this;exact this
      by_cases hin:y∈f
      ·have H:=za (show decide (y∈f)=true by simp [hin]);have q:=za (show f.Nodup∧∀ x,x∈f↔(∃ n∈at_.take a,x∈d n l∧ds[x]?=some v)∨(x∈s.take (j+1)∧ds[x]?=some v) from ⟨b.out.1,fun x=>by
        rw [b.out.2 x,I.out,iU,fN];constructor
        ·rintro (h|⟨h,h'⟩)
         ·exact Or.inl h
         ·exact Or.inr ⟨Or.inl h,h'⟩
        ·rintro (h|⟨h|h,h'⟩)
         ·exact Or.inl h
         ·exact Or.inr ⟨h,h'⟩
         ·subst h;exact (b.out.2 x).1 hin⟩)
       clear t hin;go_wp2_with (go_at_call 278;with_reducible refine HI.out.mono ?_;rw [H.out];rintro e w4 ⟨rfl,rfl⟩)
       go_roundw
       case rel=>exact⟨j+1,f,gM,oM,q,g,o⟩
       case measure=>simp [intOf];omega
      ·have H:=za (show decide (y∈f)=false by simp [hin]);have q:=za (show (f++[y]).Nodup∧∀ x,x∈f++[y]↔(∃ n∈at_.take a,x∈d n l∧ds[x]?=some v)∨(x∈s.take (j+1)∧ds[x]?=some v) from ⟨List.nodup_append.2 ⟨b.out.1,sM,fun x o z hz e=>by simp at hz;subst hz;subst e;exact hin o⟩,fun x=>by
        rw [iU,fN,b.out.2 x,I.out,iU,fN];constructor
        ·rintro ((h|⟨h,h'⟩)|h)
         ·exact Or.inl h
         ·exact Or.inr ⟨Or.inl h,h'⟩
         ·subst h;exact Or.inr ⟨Or.inr rfl,ah.out⟩
        ·rintro (h|⟨h|h,h'⟩)
         ·exact Or.inl (Or.inl h)
         ·exact Or.inl (Or.inr ⟨h,h'⟩)
         ·exact Or.inr h⟩)
       clear t hin;go_wp2_with (first
        |(go_at_call 278;with_reducible refine HI.out.mono ?_;rw [H.out];rintro e w4 ⟨rfl,rfl⟩)
        |(at_builtin;refine zO w wr rfl _ _ _ rfl 3 _ 1 8 Tryz.underlying110 zae rfl dM (.slice A0 f.length M) _ _ _ _ rfl rfl o g rfl (zbg _) lM oM ?_;intro v' w5 hext5 zkr hg5 hat5))
       go_roundw
       case rel=>exact⟨j+1,f++[y],gM,oM,q,by rw [eK,zeD];exact zkr,hext5⟩
       case measure=>simp [intOf];omega
     ·have aF:(v==r)=false:=by simp;omega
      have q:=za (show f.Nodup∧∀ x,x∈f↔(∃ n∈at_.take a,x∈d n l∧ds[x]?=some r)∨(x∈s.take (j+1)∧ds[x]?=some r) from ⟨b.out.1,fun x=>by
       rw [b.out.2 x,I.out,iU,fN];constructor
       ·rintro (h|⟨h,h'⟩)
        ·exact Or.inl h
        ·exact Or.inr ⟨Or.inl h,h'⟩
       ·rintro (h|⟨h|h,h'⟩)
        ·exact Or.inl h
        ·exact Or.inr ⟨h,h'⟩
        ·subst h;rw [hv.out] at h';exact absurd (Option.some.inj h') hvr⟩)
      clear hvr;go_wp2_with fail
      go_roundw
      case rel=>exact⟨j+1,f,gM,oM,q,g,o⟩
      case measure=>simp [intOf];omega
    ·obtain rfl:j=s.length:=oM;have q:=za (show f.Nodup∧∀ x,x∈f↔∃ n∈at_.take (a+1),x∈d n l∧ds[x]?=some r from ⟨b.out.1,fun x=>by
      rw [b.out.2 x,fB,F.out,al.out];constructor
      ·rintro (⟨z,p,h2⟩|⟨p,h2⟩)
       ·exact⟨z,by simp [p],h2⟩
       ·exact⟨n,sM,p,h2⟩
      ·rintro ⟨z,p,h2⟩;rcases List.mem_append.1 p with p|p
       ·exact Or.inl ⟨z,p,h2⟩
       ·rw [List.mem_singleton.1 p] at h2;exact Or.inr h2⟩)
     go_wp2_with fail
     go_roundw
     case rel=>exact⟨a+1,f,gM,oM,q,g,o⟩
     case measure=>simp [intOf];omega
  ·obtain rfl:a=m:=oM;have X:=za (show RetClo w d ds at_ l r N (.returned (.slice A0 f.length M)) wr from by
    refine⟨f,⟨A0,M,rfl,g,o⟩,(show Hid _ from ⟨zfv b.out.1 fun x o=>?_,fun x=>?_⟩)⟩
    ·obtain⟨_,_,_,p⟩:=(b.out.2 x).1 o;have:=(List.getElem?_eq_some_iff.1 p).1;rw [G.out] at this;exact this
    ·rw [b.out.2 x,eF (by rw [Hm.out];exact dI _)])
   clear g;go_wp2;go_ret;exact X.out
end Go.Proofs.YtckbjnndaaoddaaGreatDoor
