/- impl.(*safet -/
import Derived.Test.YtckbjnndaaoddaaGreatDoorX14
set_option maxHeartbeats 4000000
set_option maxRecDepth 100000
namespace Go.Proofs.YtckbjnndaaoddaaGreatDoor
open Go Go.RowKit
open Blk renaming new->eB
open Ext renaming bl_->dZ,eq_->eX,refl->cY,x1_->gP
open Frm renaming setCell->dG
open List renaming getD_eq_getElem?_getD->dF,getElem?_eq_none->dW,getElem?_toArray->eP,length_append->dN,length_cons->fO,length_singleton->dV,mem_of_getElem?->dD,replicate->dT,getElem?_eq_some_iff->kB
open Nat renaming le_refl->dE,le_trans->dL,zero_le->dH
open Bool renaming false->j3,true->jV
open Go renaming Calls->j8,Value->j6,World->j2
open Go.Ending renaming returned->j7
open Go.IntKind renaming i64->iX
open Go.Value renaming agg->j4,bool->j9,pointer->kD,slice->fF,string->kC
open Option renaming isSome_iff_exists->kL,none->fW,some->fV
open Option.some renaming inj->kA
open _root_.Go.Proofs.Tryz renaming prog->j5
variable {A B L base c g l n q:Nat} {S:Nat->Prop} {T T0 U V:List Nat} {W w w0:j2} {p:Aut} {s:Sys} {v:Bool}
theorem zjb:((j5).info? 222).map (fun i=>(i.zero,i.size,i.bytes))=fV (fV (.agg (Array.replicate 12 (.int .u16 0))),12,24):=kM
theorem row12_len:(Value.agg (Array.replicate 12 (.int .u16 0))).cells.size=12:=dM
theorem fold_set:∀ (l:List j6) (k:Nat) (cs:Array j6),k+l.length=cs.size->(l.zipIdx k).foldl (fun cs x=>cs.setIfInBounds x.snd x.fst) cs=(cs.toList.take k++l).toArray
 |[],k,cs,h=>by
  have h1:cs.toList.take k=cs.toList:=List.take_of_length_le (by simp at h ⊢;omega);simp only [List.zipIdx_nil,List.foldl_nil,List.append_nil,h1,Array.toArray_toList]
 |a :: r,k,cs,h=>by
  simp only [fO] at h;have hk:k<cs.toList.length:=by simp;omega
  rw [List.zipIdx_cons,List.foldl_cons,fold_set r (k+1) _ (by simp;omega)]
  congr 1
  rw [Array.toList_setIfInBounds,List.take_add_one,List.take_set_of_le (dE _),List.getElem?_set_self hk];simp
theorem fold_u16s (hU:U.length=12):List.foldl (fun cs x=>cs.setIfInBounds x.snd x.fst) #[Value.int .u16 0,.int .u16 0,.int .u16 0,.int .u16 0,.int .u16 0,.int .u16 0,.int .u16 0,.int .u16 0,.int .u16 0,.int .u16 0,.int .u16 0,.int .u16 0] (zbq U).zipIdx=(zbq U).toArray:=by
 rw [fold_set _ 0 _ (by rw [zbW,hU];rfl)];rfl
theorem zgH {l:List Oper}  {Q:Exit->Act->j2->Prop} {S:j2->Prop} {i:Nat} {rest:zx} {o:Oper} {a:Act} (ho:l[i]?=fV o)(hq:zdA o.op=jV)(hp:zgE o.op=j3)(hw:Region.wanted o (yielded l.toArray a.tmps)=jV)
  (x:Operand) (hop:o.op=.load 222 x) (g:Nat) (hx:a.eval x=.pointer (fV g)) {U:List Nat} (hU:U.length=12) (hb:∀ X,S X->Blk X g 222 (zbq U).toArray) (h:zaA j5 l T Q S rest (a.put o.dst (.agg (zbq U).toArray)) w):zaA j5 l T Q S (.one i rest) a w:=
 zbL ho hq hp hw (fun X hX=>by
  have h12:(zbq U).toArray.size=12:=by simp [zbq,hU]
  unfold execOp;simp only [hop,hx,Instr.loadAt,Instr.sureAddr,Sem.run_bind,Sem.run_pure,Result.andThen_ok,run_loadVar_row X g 222 222 _ _ _ (hb X hX) Tryz.underlying222 rfl (by rw [h12];exact zaU)]) h
def RetSAdd (F:Sfx) (Ts:List (List Nat)) (nx:Nat->Nat->Int) (U:List Nat) (S:Nat->Prop) (W:j2) (e:Ending) (W':j2):Prop:=
 ∃ (j:Nat) (Ts':List (List Nat)) (nx':Nat->Nat->Int) (k':Nat) (M':List Nat->Option Nat) (vs' vn' vu':j6),e=j7 (.int iX (j:Int))/\((Ts'=Ts/\nx'=nx)\/(Ts'=Ts++[U]/\nx'=fun k l=>if k=Ts.length then -1 else nx k l))/\Ts'[j]?=fV U /\
  zeP F Ts' nx' k' M' vs' vn' vu' W'/\Kq S W W' (sfS F vs' vn' vu')
section
variable {F:Sfx} {Ts:List (List Nat)} {nx:Nat->Nat->Int} {k:Nat} {M:List Nat->Option Nat} {vs vn vu:j6} {W:j2}
theorem yX15a1 {P:Prop}(h:P:=by
 refine ze fun K hK=>?_;go_simp;refine hK.out _ _ (hwd.alloc _) ?_;have hPe:=hP5.ext hwd;have hqe:=hq5'.out.ext hwd;have B3e:=za (B35.out.ext hwd);generalize wd6=we at *;refine pT ?_;refine uQ ?_;refine zb fun K hK=>?_;rw [fold_u16s HU.out.len];refine zaE F.w9 we _ _ _ rfl 222 _ 12 24 Tryz.underlying149 zjb row12_len dM (.slice As Ts.length cs) Ts.length (stC Ts) (zbq U).toArray _ rfl rfl hPe.frm.size hPe.sets h12 hone lM oM ?_;intro g8 cap8 w8 hown8 hg8 hat8 hlt8;refine hK.out _ _ ?_;refine pT ?_;obtain⟨hB8,hP8,hq8⟩:=hPe.pushS HF.out (U:=U) hown8 hg8 hat8;have k8:=hB8.cell;have f8:=hB8.frozen;simp only [sfC] at k8;refine zb fun K hK=>?_;go_simp;refine hK.out _ _ ?_;refine pT ?_;refine uQ ?_;refine zb fun K hK=>?_;go_simp;refine hK.out _ _ ?_;refine zg ?_;have hq:=za (hqe.trans hq8);have hP:=za hP8;have B38:=za ((B3e.out.frm (Frm.ab hg8) (fun e=>hWs e rfl)).far (p:=⟨F.G,10,none⟩) (by show W.heap.size≠F.G;omega) (.slice (some g8) (Ts.length+1) cap8));clear hown8 hg8 hat8 hB8 hP8 hq8 k8 f8 hPe hqe B3e hWs;generalize w8.setCell ⟨F.G,10,none⟩ (.slice (some g8) (Ts.length+1) cap8)=w9' at *;go_wp2_with fail
 go_meet;exact⟨g8,cap8,hq.out,hP.out,B38.out⟩
 ):P:=h
theorem sf_add (hF:zix F)(h:zeP F Ts nx k M vs vn vu W) (hU:WS F.p U)(hn:Ts.length<=1000000000000) :
  j8 j5 196 #[kD (fV ⟨F.G,0,fW⟩),zhb U] W (RetSAdd F Ts nx U (sfS F vs vn vu) W):=by
 have HF:=za hF;have HU:=za hU;have l:=za (show domP U from ⟨hU.len,hU.lt⟩);have h12:(zbq U).toArray.size=12:=by simp [zbq,hU.len]
 have aL:k<=Ts.length:=h.le;have aP:=h.frm.size;have I:Ext W (W.alloc (.cells (zbq U).toArray 222)):=(cY _).alloc _;have E:=za (h.ext hF I);have b3:=eB W 222 (zbq U).toArray;obtain⟨As,cs,rfl⟩:=zh h.sets;obtain⟨n,o,rfl⟩:=zh h.next;obtain⟨r,s,rfl⟩:=zh h.uns;have d:=za (show ¬ sfS F (fF As Ts.length cs) (fF n Ts.length o) (fF r Ts.length s) W.heap.size from fun hs=>by have:=h.lt hs;omega);clear hF h hU;unfold zhb
 go_enter Tryz.func196,Tryz.ntmps196
 go_upto_region 1 with fail
 generalize W.alloc (.cells (zbq U).toArray 222)=w1 at *;have C:∀ X,Ext w1 X->∀ i,X.cell? ⟨F.G,i,fW⟩=(sfC F (fF As Ts.length cs) (fF n Ts.length o) (fF r Ts.length s))[i]?:=fun X hX=>(E.out.blk.ext hX).cell;simp only [sfC] at C;have b:=cY w1;have B3:=za b3;clear b3;refine uR (fun X=>Ext w1 X) [5] (zx.of [0,4,1,2,3,5,6,7,8,9,10]) ?_;refine uQ ?_;refine zgH rfl rfl rfl rfl _ rfl W.heap.size rfl HU.out.len (fun X hX=>B3.out.ext hX) ?_;refine pT ?_;refine ze fun K hK=>?_;go_simp;refine hK.out _ _ b.drew ?_;refine pT ?_;refine uQ ?_;have a:=E.out.ext HF.out b.drew;have ai:=I.trans b.drew;have O:=za (B3.out.ext b.drew);clear C B3 E I;generalize w1.drew=wd at *;cases hMU:M U with
 |some j =>
  have g:=za hMU;clear hMU;refine zb fun K hK=>?_;refine wp_mapOkG _ keyP _ _ rfl rfl a.map U rfl l.out ?_;rw [g.out];intro cc hcc;obtain rfl:=hcc j rfl;refine hK.out _ _ ?_;refine pT ?_;clear hcc;refine uQ ?_;refine zg ?_;have ag:=za (show RetSAdd F Ts nx U (sfS F (fF As Ts.length cs) (fF n Ts.length o) (fF r Ts.length s)) W (j7 (.int iX (j:Int))) wd from
   ⟨j,Ts,nx,k,M,_,_,_,rfl,.inl ⟨rfl,rfl⟩,(a.num U j).1 g.out,a,Kq.refl.ext ai⟩)
  go_wp2_with fail
  go_ret;exact ag.out
 |none =>
  have g:=za hMU;clear hMU;refine zb fun K hK=>?_;refine wp_mapOkG _ keyP _ _ rfl rfl a.map U rfl l.out ?_;rw [g.out];intro cc hcc;refine hK.out _ _ ?_;refine pT ?_;clear hcc;refine uQ ?_;refine zg ?_;have kd:=a.blk.cell;simp only [sfC] at kd;have aI:=a.frm.size;go_upto_region 5 with fail
  have ah:=ai.drew;have C:∀ X,Ext wd X->∀ i,X.cell? ⟨F.G,i,fW⟩=(sfC F (fF As Ts.length cs) (fF n Ts.length o) (fF r Ts.length s))[i]?:=fun X hX=>(a.blk.ext hX).cell;simp only [sfC] at C;have b:=cY wd;refine uR (fun X=>Ext wd X) [6] (zx.of [0,4,5,1,2,3,6]) ?_;refine uQ ?_;refine zgH rfl rfl rfl rfl _ rfl W.heap.size rfl HU.out.len (fun X hX=>O.out.ext hX) ?_;refine pT ?_;refine uQ ?_;refine ze fun K hK=>?_;go_simp;refine hK.out _ _ b.drew ?_;refine pT ?_;refine uQ ?_;refine zb fun K hK=>?_;refine wp_mapSetG _ keyP _ _ _ (.inl rfl) rfl (a.ext HF.out b.drew).map oM U Ts.length rfl rfl l.out oM ?_;intro w5 hmap5 hg5;refine hK.out _ _ ?_;refine pT ?_;refine zg ?_;obtain⟨hP5,ad⟩:=(a.ext HF.out b.drew).p.mapSet HF.out hmap5 hg5;have B35:=za ((O.out.ext b.drew).frm (Frm.ab hg5) (fun e=>by
   have L:=kA e;exact d.out (.inl ⟨by rw [<- L];exact HF.out.b0m,by rw [<- L];exact HF.out.mw⟩)))
  have hq5':=za (Kq.back ah ad);have ab:=za (a.num.add g.out);have ax:=za a.ws;clear C b a hmap5 hg5 ad kd ah;go_upto_region 6 with fail
  go_cut [] (fun wx=>∃ (g8 cap8:Nat),Kq (sfS F (fF As Ts.length cs) (fF n Ts.length o) (fF r Ts.length s)) W wx (sfS F (fF (fV g8) (Ts.length+1) cap8) (fF n Ts.length o) (fF r Ts.length s))/\ziw F (Ts++[U]) Ts.length nx (unC F.p Ts) (k+1) (ziA M U Ts.length) (fF (fV g8) (Ts.length+1) cap8) (fF n Ts.length o) (fF r Ts.length s) wx/\Blk wx W.heap.size 222 (zbq U).toArray)
  case first =>
   have C:∀ X,Ext w5 X->∀ i,X.cell? ⟨F.G,i,fW⟩=(sfC F (fF As Ts.length cs) (fF n Ts.length o) (fF r Ts.length s))[i]?:=fun X hX=>(hP5.blk.ext hX).cell;simp only [sfC] at C;have b:=cY w5;have hone:∀ u∈(zbq U).toArray.toList,u.oneCell'=jV:=fun u hu=>by
    have av:u∈zbq U:=by simpa using hu
    obtain⟨z,_,rfl⟩:=List.mem_map.1 av;rfl
   have ao:F.G<W.heap.size:=oH HF.out.Gw;have hWs:∀ {q:Nat},(fF As Ts.length cs).ownBlock=fV q->W.heap.size≠q:=fun hq e=>d.out (.inr (.inl (by rw [e];exact hq)));refine uR (fun X=>Ext w5 X) [7,8,10] (zx.app [0,1,5] (zx.two 2 (zx.of [3,4,6,7,8,9,10]) 6 (zx.of [2,3,4,7,8,9,10]))) ?_;refine uQ ?_;refine zgH rfl rfl rfl rfl _ rfl W.heap.size rfl HU.out.len (fun X hX=>B35.out.ext hX) ?_;refine pT ?_;have hwd:=b.drew;generalize w5.drew=wd6 at *;refine zm (fun K hK=>?_) (fun K hK=>?_)
   ·go_simp;refine hK.out _ _ hwd ?_;refine pT ?_;refine uQ ?_;exact yX15a1
   ·go_simp;refine hK.out _ _ (hwd.alloc _) ?_;refine pT ?_;exact yX15a1
  case rest =>
   obtain⟨g8,cap8,hq8,hP8,R⟩:=hcut;clear hP5 hq5' B35;have k8:=hP8.blk.cell;simp only [sfC] at k8;have Q:=za hq8;have Z:∀ {q:Nat},(fF n Ts.length o).ownBlock=fV q->W.heap.size≠q:=fun hq e=>d.out (.inr (.inr (.inl (by rw [e];exact hq))));have ao:F.G<W.heap.size:=oH HF.out.Gw;go_upto_region 8 with (at_builtin;refine zI F.w9 wc rfl _ _ _ rfl 166 _ 6 48 Tryz.underlying148 info_row6 row6_len dM (fF n Ts.length o) Ts.length (nxC Ts.length nx) _ _ rfl rfl hP8.frm.size hP8.next rfl (by simp [Value.oneCell']) lM oM ?_;intro g7 cap7 w7 hown7 hg7 hat7 hlt7;obtain⟨D,Y,af⟩:=hP8.pushN HF.out hown7 hg7 hat7;have k7:=D.cell;have f7:=D.frozen;simp only [sfC] at k7)
   have H:=za (Q.out.trans af);have t:=za Y;have an:=(R.frm (Frm.ab hg7) (fun e=>Z e rfl)).far (p:=⟨F.G,12,fW⟩) (by show W.heap.size≠F.G;omega) (fF (fV g7) (Ts.length+1) cap7);clear hown7 hg7 hat7 D Y af k7 f7 hP8 hq8 Q R k8 Z;generalize w7.setCell ⟨F.G,12,fW⟩ (fF (fV g7) (Ts.length+1) cap7)=wn at *;go_upto_block 0 with (refine wpList_load_row rfl _ _ rfl _ rfl _ _ _ _ an Tryz.underlying222 rfl (by rw [h12];exact zaU) ?_)
   have kn:=t.out.blk.cell;simp only [sfC] at kn;have ap:=za (HF.out.red wn t.out.frm);go_wp2_with fail
   go_loopw [8,9,10,54] (fun v8 _ _ i wr=>∃ q:Nat,v8=.bool (zgw F.p U q)/\i=.int iX q/\q<=12/\wr=wn) (fun _ _ _ i _=>12 - (intOf i).toNat)
   case atStart=>exact⟨0,rfl,rfl,dH _,rfl⟩
   case round =>
    obtain⟨q,rfl,rfl,hq,rfl⟩:=hrel
    by_cases hlt:q<12
    ·have au:=zdG HU.out.len hlt;have aC:(q:Int)<12:=oM;obtain⟨x,J⟩:∃ x,Hid (U.getD q 0=x):=⟨_,rfl⟩;rw [J.out] at au;have f:=za (show zgw F.p U (q+1)=(zgw F.p U q || (x != 0&&!zaw F.p q)) by rw [<- J.out];rfl);cases hb:zgw F.p U q with
     |true =>
      have c:=za (show zgw F.p U (q+1)=jV by rw [f.out,hb];rfl);clear f;go_wp2_with fail
      go_roundw
      case rel=>exact⟨q+1,by rw [c.out],gM,oM,trivial⟩
      case measure=>exact uM
     |false =>
      by_cases h0:x=0
      ·have c:=za (show zgw F.p U (q+1)=j3 by rw [f.out,hb,h0];rfl);subst h0;clear f;go_wp2_with fail
       go_roundw
       case rel=>exact⟨q+1,by rw [c.out],gM,oM,trivial⟩
       case measure=>exact uM
      ·have H:=HU.out.idx (i:=q) (by rw [J.out];exact h0);obtain⟨aS,aK,v⟩:=ap.out.acc;have aq:=(zk HF.out.hp).2;obtain⟨aA,y,hA,_,_,hy,aJ⟩:=v.bool (k:=q) (by have:=v.length;rw [zbX] at this;omega);have c:=za (show zgw F.p U (q+1)=!y by
        rw [f.out,hb];have:zaw F.p q=y:=by unfold zaw;rw [dF,hy.out];rfl
        rw [this];simp [h0])
       have aN:((x:Int) != 0)=jV:=by simp;omega
       rw [hA] at kn;have aO:(q:Int)<(F.m':Int):=by have:=v.length;rw [zbX] at this;omega
       clear f v hA aq;go_wp2_with fail
       go_roundw
       case rel=>exact⟨q+1,by rw [c.out],gM,oM,trivial⟩
       case measure=>exact uM
    ·obtain rfl:q=12:=oM;have hPe:=t.out;have ul:(unC F.p Ts).length=Ts.length:=by simp [unC]
     have B:=hPe.uns;rw [ul] at B;have hqe:=H.out;have ar:=za (show zgw F.p U 12=zhk F.p U from rfl);obtain⟨bb,aa⟩:∃ bb,Hid (bb=zgw F.p U 12):=⟨_,rfl⟩;rw [<- aa.out];clear t H;go_wp2_with (at_builtin;refine zI F.w9 wr rfl _ _ _ rfl 4 _ 1 1 Tryz.underlying25 zaK rfl dM (fF r Ts.length s) Ts.length (zaa (unC F.p Ts)) _ _ rfl rfl hPe.frm.size B rfl (by simp [Value.oneCell']) lM oM ?_;intro g6 cap6 w6 hown6 hg6 hat6 hlt6;rw [<- ul] at hown6;obtain⟨S,V,ae⟩:=hPe.pushU HF.out (x:=bb) hown6 hg6 hat6;have k6:=S.cell;have f6:=S.frozen;simp only [sfC] at k6)
     go_ret;rw [ul] at V ae;have aw:unC F.p (Ts++[U])=unC F.p Ts++[bb]:=by rw [unC_snoc,<- ar.out,<- aa.out]
     refine⟨Ts.length,Ts++[U],_,k+1,ziA M U Ts.length,_,_,_,rfl,.inr ⟨rfl,rfl⟩,sM,ziw.m (by rw [aw,dN,dV];exact V) ab.out (by rw [dN,dV];omega) (fun T hT=>?_),hqe.trans ae⟩;rcases List.mem_append.1 hT with L|L
     ·exact ax.out T L
     ·obtain rfl:=List.mem_singleton.1 L;exact HU.out.len
end
section
open Go.WideMaps Go.Maps
def memP (W:j2) (g:Nat):List Nat:=(List.range 12).map fun j=>match W.cell? ⟨g,j,fW⟩ with|some (.int _ z)=>z.toNat|_=>0
theorem memP_blk {t:TypeId} (h:Blk W g t (zbq T).toArray)(hT:T.length=12):memP W g=T:=by
 refine List.ext_getElem? fun j=>?_;unfold memP;rw [List.getElem?_map];rcases Nat.lt_or_ge j 12 with a|a
 ·rw [List.getElem?_range a,Option.map_some,h.cell,eP,zeZ oM,dF,List.getElem?_eq_getElem oM];simp
 ·rw [dW (by simpa using a),dW oM];rfl
theorem run_eq_pset (hT:domP T)(hU:domP U) (w:j2):(Op.equalIn 10000 222 (zhb T) (zhb U)).run j5 w=.ok (decide (T=U)) w:=by
 show (Op.equal 222 (zhb T) (zhb U)).run j5 w=.ok (decide (T=U)) w;obtain⟨l,b⟩:=kL.1 (zeF hT);obtain⟨k,a⟩:=kL.1 (zeF hU);obtain⟨r,d,c⟩:=run_equal_deep w (m:=2) oM (zjd.at 0) zjd.wide b a;rw [d]
 congr 1
 rw [Bool.eq_iff_iff,c,decide_eq_true_eq];constructor
 ·rintro rfl;exact pset_inj ((Keyed.of_law zjd.law).inj b a)
 ·rintro rfl;exact kA (b.symm.trans a)
def RetSCl (F:Sfx) (T:List Nat) (W:j2) (e:Ending) (W':j2):Prop:=∃ U,e=j7 (zhb U)/\zaR U 12 (Cl F.s F.p F.L (bq T))/\Ext W W'
section
variable {F:Sfx} {Ts:List (List Nat)} {nx:Nat->Nat->Int} {k:Nat} {M:List Nat->Option Nat} {vs vn vu:j6} {W:j2}
theorem ClI.ws (hp:zj p=jV)(h0:WS p T0)(h:ClI s p A (bq T0) 12 T):WS p T:=
 ⟨h.len,h.lt,fun i q hb=>ziR hp (fun q i hb=>h0.row i q hb) (h.sub i q hb)⟩
theorem hidS_iff :l∈hidS s L↔hidL s L l:=by
 unfold hidS hidL;rw [zC,zjE];simp
theorem sf_close (hF:zix F)(h:zeP F Ts nx k M vs vn vu W) (hT0:WS F.p T0) :
  j8 j5 197 #[kD (fV ⟨F.G,0,fW⟩),zhb T0] W (RetSCl F T0 W):=by
 have HF:=za hF;have HM:=za h;have aA:=za hT0;have aL:=zcl hF.hs;have Hp:=za hF.hp;have bG:=h.blk;have zp:=zero_pset;obtain⟨a7,a4,hid⟩:=(h.red hF).hid;have ag:=za hid;have ai:(zbq T0).toArray.size=12:=by simp [zbq,hT0.len]
 have ak:=za (show ClI F.s F.p F.L (bq T0) 12 T0 from hT0.stand.clI);clear hF h hT0 aL hid;unfold zhb
 go_enter Tryz.func197,Tryz.ntmps197
 go_upto_block 0 with fail
 obtain⟨E,b4⟩:=zJ (cY ((W.alloc (.cells (zbq T0).toArray 222)).alloc (.cells (Array.replicate 12 (.int .u16 0)) 222)));have au:Ext W ((W.alloc (.cells (zbq T0).toArray 222)).alloc (.cells (Array.replicate 12 (.int .u16 0)) 222)):=((cY _).alloc _).alloc _;generalize (W.alloc (.cells (zbq T0).toArray 222)).alloc (.cells (Array.replicate 12 (.int .u16 0)) 222)=w2 at *;rw [<- zir] at b4;have aJ:=room (memP w2 W.heap.size);go_wp2_with fail
 go_loopw [5,7,8,9] (fun _ _ _ _ wr=>∃ T,Blk wr W.heap.size 222 (zbq T).toArray/\Blk wr (W.heap.size+1) 222 (zbq (dT 12 0)).toArray/\Hid (ClI F.s F.p F.L (bq T0) 12 T)/\Ext W wr) (fun _ _ _ _ wr=>room (memP wr W.heap.size))
 case atStart=>exact⟨T0,E,b4,ak,au⟩
 case round =>
  clear E b4 au ak ai aJ;obtain⟨u,aO⟩:∃ u,u=wr:=⟨_,rfl⟩;subst aO;obtain⟨T,E,b4,t,Y⟩:=hrel;have h12:(zbq T).toArray.size=12:=by simp [zbq,t.out.len]
  have J:=eB u 222 (Array.replicate 12 (.int .u16 0));rw [<- zir] at J;have av:Ext u (u.alloc (.cells (Array.replicate 12 (.int .u16 0)) 222)):=(cY _).alloc _;go_upto_region 2 with (first
    |(refine wpList_load_row rfl _ _ rfl _ rfl _ _ _ _ E Tryz.underlying222 rfl (by rw [h12];exact zaU) ?_)
    |(refine zdb rfl _ _ rfl _ rfl rfl J sM t.out.len ?_;intro w5 r hf5))
  have a:Ext u w5:=av.frm hf5 (fun q hq e=>by subst e;omega);have aD:=E.ext a;have BG:∀ X,Ext u X->∀ i,X.cell? ⟨F.G,i,fW⟩=(sfC F vs vn vu)[i]?:=fun X hX=>(bG.ext (Y.trans hX)).cell;simp only [sfC] at BG;have I:=za E;have aF:=za b4;obtain⟨H,ao⟩:∃ H,Hid (H=u.heap.size):=⟨_,rfl⟩;rw [<- ao.out] at r hf5 ⊢;have b:Hid (ClI F.s F.p F.L (bq T0) 12 T/\(∀ i q,zdF T i q->zdF T i q)/\∀ (c l:Nat),c<0->(hidS F.s F.L)[c]?=fV l->∃ V,MvP F.s F.p l T 12 V/\Has T V 12):=⟨t.out,fun _ _ h=>h,fun c l h=>oM⟩;clear E b4 aD hf5 J av;obtain⟨o,y⟩:∃ o,Hid (o=hidS F.s F.L):=⟨_,rfl⟩;rw [<- y.out] at BG b;have Hh:=za ag.out;rw [<- y.out] at Hh;obtain⟨HA,aj⟩:∃ HA,Hid (HA=F.HA):=⟨_,rfl⟩;rw [<- aj.out] at BG Hh;have a3:o.length<=6:=by rw [y.out];exact zA _ 6
  go_wp2_with fail
  go_loopw [7,8,9,16] (fun _ _ _ i wr=>∃ (j:Nat) (f:List Nat),i=.int iX j/\j<=o.length/\Blk wr H 222 (zbq f).toArray/\Ext u wr/\Hid (ClI F.s F.p F.L (bq T0) 12 f/\(∀ i q,zdF T i q->zdF f i q)/\∀ (c l:Nat),c<j->o[c]?=fV l->∃ V,MvP F.s F.p l T 12 V/\Has f V 12)) (fun _ _ _ i _=>o.length - (intOf i).toNat)
  case atStart=>exact⟨0,T,rfl,dH _,r,a,b⟩
  case round =>
   clear r a b;obtain⟨j,f,rfl,hj,r,a,b⟩:=hrel
   by_cases hjl:j<o.length
   ·obtain⟨bl,ol,l,rfl,_,_,hl,O⟩:=(Hh.out.ext zbw.ok (Y.trans a)).num hjl;have ap:hidL F.s F.L l:=hidS_iff.1 (by rw [<- y.out];exact dD hl.out);have ah:=za ap;have aX:(j:Int)<(o.length:Int):=oM;have n:=I.out.ext a;have aE:=BG wr a;clear ap;go_upto_region 6 with (first
     |(refine wpList_load_row rfl _ _ rfl _ rfl _ _ _ _ n Tryz.underlying222 rfl (by rw [h12];exact zaU) ?_)
     |(go_at_call 198;refine (sf_move HF.out (HM.out.ext HF.out (Y.trans a)) (ClI.ws Hp.out aA.out t.out) ah.out.1).mono ?_;rintro e w6 ⟨V,rfl,hV,Z⟩))
    have D:=a.trans Z;have am:=r.ext Z;have al:=za hV.1;have HV:=za hV;have d:Hid ((ClI F.s F.p F.L (bq T0) 12 f/\(∀ i q,zdF T i q->zdF f i q)/\∀ (c l:Nat),c<j->o[c]?=fV l->∃ V,MvP F.s F.p l T 12 V/\Has f V 12)/\Has f V 0):=⟨b.out,Has.zero _ _⟩;clear b hV r O n aE Z;go_wp2_with fail
    go_loopw [8,9,24] (fun _ _ i wr=>∃ (k:Nat) (g:List Nat),i=.int iX k/\k<=12/\Blk wr H 222 (zbq g).toArray/\Ext u wr/\Hid ((ClI F.s F.p F.L (bq T0) 12 g/\(∀ i q,zdF T i q->zdF g i q)/\∀ (c l:Nat),c<j->o[c]?=fV l->∃ V,MvP F.s F.p l T 12 V/\Has g V 12)/\Has g V k)) (fun _ _ i _=>12 - (intOf i).toNat)
    case atStart=>exact⟨0,f,rfl,dH _,am,D,d⟩
    case round =>
     clear am D d;obtain⟨k,g,rfl,hk,r,a,d⟩:=hrel
     by_cases hlt:k<12
     ·have aI:∀ X:j2,(Instr.index 222 (zhb V) (.int iX (k:Int))).run j5 X=.ok (.int .u16 (V.getD k 0:Nat)) X:=fun X=>zdG al.out hlt X;have m:=za d.out.1.1.len;have a5:(k:Int)<12:=oM;obtain⟨x,ab⟩:∃ x,Hid (V.getD k 0=x):=⟨_,rfl⟩;obtain⟨z,hz⟩:∃ z,Hid (g.getD k 0=z):=⟨_,rfl⟩;rw [ab.out] at aI;have ar:x<65536:=by rw [<- ab.out];exact zbF HV.out.2.1 k
      have aw:z<65536:=by rw [<- hz.out];exact zbF d.out.1.1.lt k
      have a6:=u16_or_nat z x aw ar;have c5:wr.cell? ⟨H,k,fW⟩=fV (.int .u16 (z:Nat)):=by
       rw [r.cell,eP,zeZ (by rw [m.out];exact hlt),hz.out]
      have f5:=r.frozen k;have S:k<g.length:=by rw [m.out];exact hlt
      have B:Hid ((ClI F.s F.p F.L (bq T0) 12 (g.set k (z|||x))/\(∀ i q,zdF T i q->zdF (g.set k (z|||x)) i q)/\∀ (c l:Nat),c<j->o[c]?=fV l->∃ V,MvP F.s F.p l T 12 V/\Has (g.set k (z|||x)) V 12)/\Has (g.set k (z|||x)) V (k+1)):=by
       obtain⟨⟨i1,i2,i3⟩,i4⟩:=d.out;rw [<- hz.out,<- ab.out];exact⟨⟨i1.join t.out HV.out ah.out hlt,fun i q hb=>(zcX S _ _ _).2 (.inl (i2 i q hb)),fun c l h1 h2=>by
        obtain⟨V,v1,v2⟩:=i3 c l h1 h2;exact⟨V,v1,v2.set S⟩⟩,i4.step S⟩
      have aH:u.heap.size<=H:=by rw [ao.out];exact dE _
      clear d;go_wp2_with fail
      go_roundw
      case rel=>exact⟨k+1,g.set k (z|||x),gM,oM,by rw [<- zkk];exact r.ae k _,a.setCell (p:=⟨H,k,fW⟩) aH _,B⟩
      case measure=>exact uM
     ·have aZ:12<=k:=oM;have B:Hid (ClI F.s F.p F.L (bq T0) 12 g/\(∀ i q,zdF T i q->zdF g i q)/\∀ (c l:Nat),c<j+1->o[c]?=fV l->∃ V,MvP F.s F.p l T 12 V/\Has g V 12):=by
       obtain⟨⟨i1,i2,i3⟩,i4⟩:=d.out;refine⟨i1,i2,fun c l' h1 h2=>?_⟩;rcases Nat.lt_or_eq_of_le (Nat.le_of_lt_succ h1) with h3|rfl
       ·exact i3 c l' h3 h2
       ·have h4:=hl.out;rw [h2] at h4;obtain rfl:=kA h4;exact⟨V,HV.out,fun i q hi hb=>i4 i q oM hb⟩
      clear d;go_wp2_with fail
      go_roundw
      case rel=>exact⟨j+1,g,gM,oM,r,a,B⟩
      case measure=>exact uM
   ·have aY:¬ (j:Int)<(o.length:Int):=oM;have O:∀ l,hidL F.s F.L l->∃ V,MvP F.s F.p l T 12 V/\Has f V 12:=fun l hl=>by
     obtain⟨c,R⟩:=List.getElem?_of_mem (hidS_iff.2 hl);rw [<- y.out] at R;exact b.out.2.2 c l (by have:=(kB.1 R).1;omega) R
    have n:=I.out.ext a;have af:=aF.out.ext a;have m:(zbq f).toArray.size=12:=by simp [zbq,b.out.1.len]
    have Q:=run_eq_pset (T:=f) (U:=T) ⟨b.out.1.len,b.out.1.lt⟩ ⟨t.out.len,t.out.lt⟩;unfold zhb at Q
    by_cases hMT:f=T
    ·have C:decide (f=T)=jV:=by simpa using hMT
     rw [C] at Q;have az:=za hMT;clear hMT;go_wp2_with (first
      |(refine wpList_load_row rfl _ _ rfl _ rfl _ _ _ _ r Tryz.underlying222 rfl (by rw [m];exact zaU) ?_)
      |(refine wpList_load_row rfl _ _ rfl _ rfl _ _ _ _ n Tryz.underlying222 rfl (by rw [h12];exact zaU) ?_)
      |(refine zdb rfl _ _ rfl _ rfl rfl af sM t.out.len ?_;intro w7 b7 hf7))
     have aN:=(Y.trans a).size;have aa:Ext W w7:=(Y.trans a).frm hf7 (fun q hq e=>by subst e;omega);have an:zaR T 12 (Cl F.s F.p F.L (bq T0)):=t.out.stop (fun l hl=>by
      obtain⟨V,v1,v2⟩:=O l hl;rw [az.out] at v2;exact⟨V,v1,v2⟩)
     exact bodyPost_ret (v:=zhb T) (results_cell_row (p:=4) (ty:=222) Tryz.results197 _ _ (W.heap.size+1) _ _ _ _ rfl b7 Tryz.underlying222 rfl (by rw [h12];exact zaU)) rfl ⟨T,rfl,an,aa⟩
    ·have C:decide (f=T)=j3:=by simpa using hMT
     rw [C] at Q;have aK:=za (room_grow (by rw [t.out.len,b.out.1.len]) b.out.1.lt b.out.2.1 (fun e=>hMT e.symm));have aq:=za (memP_blk I.out t.out.len);clear hMT;go_wp2_with (first
      |(refine wpList_load_row rfl _ _ rfl _ rfl _ _ _ _ r Tryz.underlying222 rfl (by rw [m];exact zaU) ?_)
      |(refine wpList_load_row rfl _ _ rfl _ rfl _ _ _ _ n Tryz.underlying222 rfl (by rw [h12];exact zaU) ?_)
      |(refine zdb rfl _ _ rfl _ rfl rfl n t.out.len b.out.1.len ?_;intro w7 b7 hf7))
     have aN:=(Y.trans a).size;have aa:Ext W w7:=(Y.trans a).frm hf7 (fun q hq e=>by subst e;omega);go_roundw
     case rel=>exact⟨f,b7,af.frm hf7 oM,za b.out.1,aa⟩
     case measure =>
      show room (memP w7 W.heap.size)<room (memP u W.heap.size);rw [memP_blk b7 b.out.1.len,aq.out];exact aK.out
end
end
theorem MvP.ws (h:MvP s p l T 12 V)(hp:zj p=jV)(hl:l<6)(hT:WS p T):WS p V:=
 ⟨h.1,h.2.1,fun j q' hb=>by
  obtain⟨i,q,-,h2,-,rfl⟩:=(h.2.2 j q').1 hb
  exact zdL hp (hT.row i q h2) hl⟩
theorem zjO (hT:WS p T)(hV:MvP s p l T 12 V)(hU:zaR U 12 (Cl s p A (bq V))):Lead s p A l T U:=by
 unfold Lead;rw [<- (hV.fin hT.stand).eq];exact hU
section
variable {F:Sfx} {Ts:List (List Nat)} {nx:Nat->Nat->Int} {k:Nat} {M:List Nat->Option Nat} {vs vn vu:j6} {W W':j2}
theorem zeP.setN {v:Int}(h:zeP F Ts nx k M vs (fF (fV g) n c) vu W)(hq:q<Ts.length)(hl:l<6) :
  zeP F Ts (fun k' l'=>if k'=q/\l'=l then v else nx k' l') k M vs (fF (fV g) n c) vu (W.setCell ⟨g,q*6+l,fW⟩ v)/\Kq (sfS F vs (fF (fV g) n c) vu) W (W.setCell ⟨g,q*6+l,fW⟩ v) (sfS F vs (fF (fV g) n c) vu):=by
 have f:=dG W g (q*6+l) (.int iX v);have a:=h.next;have o:(fF (fV g) n c).ownBlock=fV g:=rfl;have m:n=Ts.length:=by
  rcases a.2 with ⟨d,t⟩|⟨s,r,p,d,_⟩
  ·injection d with d;cases d
  ·injection d
 subst m;have i:=(a.stored (q*6+l) (.int iX v)).1;rw [nxC_set hq hl] at i;refine⟨⟨⟨h.frm.os,h.frm.tape,h.frm.output,by simpa using h.frm.size,fun j hj hn'=>?_⟩,h.blk.far (fun e=>zM a h.blk dM o e.symm) _,zf h.sets f (fun b hb e=>zat h.sets a dM hb (by rw [e];rfl)),i,zf h.uns f (fun b hb e=>zat h.uns a dM hb (by rw [e];rfl)),h.map.frm f (fun e=>h.map.aj a (by rw [e];rfl)),h.num,h.le,h.ws⟩,f.mono (fun b _ e=>.inr (.inr (.inl (by rw [e];rfl)))),fun b hb=>.inl hb⟩;refine (f.block j (oH h.frm.size) (fun e=>?_)).trans (h.frm.block j hj hn');have:=(a.lt g o).1;omega
def RetSAf (F:Sfx) (Ts:List (List Nat)) (T:List Nat) (_n l:Nat) (S:Nat->Prop) (W:j2) (e:Ending) (W':j2):Prop:=
 ∃ (j:Nat) (Ts':List (List Nat)) (nx':Nat->Nat->Int) (k':Nat) (M':List Nat->Option Nat) (vs' vn' vu':j6) (V:List Nat),e=j7 (.int iX (j:Int))/\SfI F.s F.p F.L Ts' nx'/\Ts'.length<=Ts.length+1/\(∀ (i:Nat) (U:List Nat),Ts[i]?=fV U->Ts'[i]?=fV U)/\Ts'[j]?=fV V/\Lead F.s F.p F.L l T V /\
  zeP F Ts' nx' k' M' vs' vn' vu' W'/\Kq S W W' (sfS F vs' vn' vu')
theorem sf_after (hF:zix F)(h:zeP F Ts nx k M vs vn vu W)(hI:SfI F.s F.p F.L Ts nx)  (hT:Ts[n]?=fV T)(hl:l<6)(hn:Ts.length<=200000000000) :
  j8 j5 108 #[kD (fV ⟨F.G,0,fW⟩),n,l] W (RetSAf F Ts T n l (sfS F vs vn vu) W):=by
 have HF:=za hF;have X:=za hI;have Z:=za hT;have E:=(kB.1 hT).1;have ao:(n:Int)<(Ts.length:Int):=oM;have aB:(l:Int)<6:=oM;have a:=za (hI.ws T (dD hT));obtain⟨As,cs,rfl⟩:=zh h.sets;obtain⟨An,cn,rfl⟩:=zh h.next;obtain⟨gn,rfl,ay,-⟩:=zN h.next oM;obtain⟨gs,rfl,az,-⟩:=zN h.sets oM;have z:=za h;have kG:=h.blk.cell;simp only [sfC] at kG;have cN:W.cell? ⟨gn,n*6+l,fW⟩=fV (.int iX (nx n l)):=by rw [h.next.cellAt _ oM,zfF E hl]
 have ah:=za (hI.nx n l E hl);clear hF h hI hT;rcases ah.out with m|⟨j,T1,U,hj,D,g,C⟩
 ·rw [m] at cN;have f:W.rangeAt gs (n*12) (zbq T):=fun i u hu=>by
   have hi:i<12:=by have:=(kB.1 hu).1;rw [zbW,a.out.len] at this;exact this
   rw [z.out.sets.cellAt _ oM];exact stC_drop z.out.ws Z.out i u hu
  have h12:(zbq T).length=12:=by rw [zbW];exact a.out.len
  clear m
  go_enter Tryz.func108,Tryz.ntmps108
  go_upto_region 3 with (first
   |(refine wpList_load_mid rfl _ _ rfl gs (n*12) rfl (zbq T) _ f Tryz.underlying222 rfl (by rw [h12];exact zaU) ?_)
   |(go_at_call 198;refine (sf_move HF.out z.out a.out hl).mono ?_;rintro e w1 ⟨V,rfl,B,y⟩)
   |(go_at_call 197;refine (sf_close HF.out (z.out.ext HF.out y) (B.ws HF.out.hp hl a.out)).mono ?_;rintro e w2 ⟨U,rfl,g,S⟩)
   |(go_at_call 196;refine (sf_add HF.out (z.out.ext HF.out (y.trans S)) ((zjO a.out B g).ws HF.out.hp hl a.out) oM).mono ?_;rintro e w3 ⟨j,c,ak,k',M',aG,aF,aH,rfl,H,r,b,I⟩))
  have R:c.length<=Ts.length+1/\(∀ (i:Nat) (U:List Nat),Ts[i]?=fV U->c[i]?=fV U)/\SfI F.s F.p F.L c ak:=by
   rcases H with ⟨rfl,rfl⟩|⟨rfl,rfl⟩
   ·exact⟨oM,fun _ _ h=>h,X.out⟩
   ·exact⟨sM,fun i U h=>by rw [List.getElem?_append_left (kB.1 h).1];exact h,X.out.add ((zjO a.out B g).ws HF.out.hp hl a.out)⟩
  obtain⟨aj,x,Q⟩:=R;have t:=x n T Z.out;have ad:=za x;have o:n<c.length:=(kB.1 t).1;have ag:(n:Int)<(c.length:Int):=oM;obtain⟨aq,av,rfl⟩:=zh b.next;obtain⟨q,rfl,-,-⟩:=zN b.next oM;have k3:=b.blk.cell;simp only [sfC] at k3;obtain⟨o0,g0⟩:=zaF b.next (n*6+l) oM;have f0:=b.next.frozenAt (n*6+l);obtain⟨d,J⟩:=b.setN (v:=(j:Int)) o hl;have af:=za (Q.set (k:=n) (l:=l) (j:=j) t r (zjO a.out B g));have aa:=za r;have ab:=za (zjO a.out B g);have ai:=za ((Kq.back (y.trans S) I).trans J);clear t x Q r B g I J H;go_upto_region 4 with fail
  have k4:=d.blk.cell;simp only [sfC] at k4;have c4:(w3.setCell ⟨q,n*6+l,fW⟩ (.int iX (j:Int))).cell? ⟨q,n*6+l,fW⟩=fV (.int iX (j:Int)):=by
   rw [d.next.cellAt _ oM,zfF o hl,if_pos ⟨rfl,rfl⟩]
  have Y:=za d;clear k3 g0 f0 b d;generalize w3.setCell ⟨q,n*6+l,fW⟩ (.int iX (j:Int))=w4 at *;go_wp2_with fail
  go_ret;exact⟨j,c,_,k',M',_,_,_,U,rfl,af.out,aj,ad.out,aa.out,ab.out,Y.out,ai.out⟩
 ·rw [hj] at cN;have O:=za (show RetSAf F Ts T n l (sfS F (fF (fV gs) Ts.length cs) (fF (fV gn) Ts.length cn) vu) W (j7 (.int iX (j:Int))) W from by
   obtain rfl:=kA (Z.out.symm.trans D);exact⟨j,Ts,nx,k,M,_,_,_,U,rfl,X.out,oM,fun _ _ h=>h,g,C,z.out,Kq.refl⟩)
  have aA:¬ ((j:Int)<0):=oM;clear hj D g C
  go_enter Tryz.func108,Tryz.ntmps108
  go_wp2_with fail
  go_ret;exact O.out
end
def SafJ (F:Sfx):zbo:=fun B W S=>∃ (Ts:List (List Nat)) (nx:Nat->Nat->Int) (k:Nat) (M:List Nat->Option Nat) (vs vn vu:j6),SfI F.s F.p F.L Ts nx/\zeP F Ts nx k M vs vn vu W/\Ts.length<=10000*B+1/\S=sfS F vs vn vu
theorem SafJ.ok {F:Sfx}(hF:zix F):zbo.Ok F.lo (SafJ F) where
 lt:=fun ⟨_,_,_,_,_,_,_,_,h,_,e⟩ j hj=>by subst e;exact h.lt hj
 low:=fun ⟨_,_,_,_,_,_,_,_,h,_,e⟩ j hj=>by subst e;exact h.low hF hj
 keep:=fun ⟨Ts,nx,k,M,vs,vn,vu,hI,h,hl,e⟩ hf hT=>by subst e;exact⟨Ts,nx,k,M,vs,vn,vu,hI,h.frmT hF hf hT,hl,rfl⟩
 more:=fun ⟨Ts,nx,k,M,vs,vn,vu,hI,h,hl,e⟩ hBC=>⟨Ts,nx,k,M,vs,vn,vu,hI,h,oM,e⟩
section
variable {F:Sfx} {Ts:List (List Nat)} {nx:Nat->Nat->Int} {k:Nat} {M:List Nat->Option Nat} {vs vn vu:j6} {W:j2}
theorem zeP.bad {A:Option Addr} (h:zeP F Ts nx k M vs vn (fF A n c) W)(hT:Ts[q]?=fV T):∃ g,A=fV ⟨g,0,fW⟩/\n=Ts.length/\W.cell? ⟨g,q,fW⟩=fV (.bool (zhk F.p T)):=by
 have d:=h.uns;have i:=(kB.1 hT).1;have b:n=Ts.length:=by
  rcases d.2 with ⟨a,m⟩|⟨l,j,f,a,_⟩
  ·injection a with _ h3;omega
  ·injection a
 subst b;obtain⟨g,rfl,-,-⟩:=zN d oM;refine⟨g,rfl,rfl,?_⟩;rw [d.cellAt q oM];simp [zaa,unC,hT]
theorem sf_safe (hF:zix F)   {x:ByteArray}(hJ:SafJ F B W S)(hB:B<10000000)(hx:inB x F.L=jV)(hxs:x.size<=9000) :
  j8 j5 122 #[kD (fV ⟨F.G,0,fW⟩),x] W (RetO (SafJ F) (.bool (zu F.s F.p F.L x)) (B+1) S W):=by
 have HF:=za hF;have Hx:=za hx;have Hb:=za (fun k hk=>zaV (zbp hx) (k:=k) hk);obtain⟨Ts,nx,k,M,z,v,D,hI,h,hl,rfl⟩:=hJ;obtain⟨T0,U,ab⟩:=hI.start;have g:Hid (SfI F.s F.p F.L Ts nx/\Ts[0]?=fV T0/\SfW F.s F.p F.L x 0 T0/\zeP F Ts nx k M z v D W/\Kq (sfS F z v D) W W (sfS F z v D)/\Ts.length<=10000*B+1+0):=⟨hI,U,SfW.zero ab,h,Kq.refl,oM⟩;clear hF hx hI U ab h hl
 go_enter Tryz.func122,Tryz.ntmps122
 go_upto_block 0 with fail
 go_wp2_with fail
 go_loopw [5,6] (fun n i wr=>∃ (q a:Nat) (c:List (List Nat)) (m:Nat->Nat->Int) (k':Nat) (M':List Nat->Option Nat) (r o E:j6) (T:List Nat),n=.int iX q/\i=.int iX a/\a<=x.size/\Hid (SfI F.s F.p F.L c m/\c[q]?=fV T/\SfW F.s F.p F.L x a T/\zeP F c m k' M' r o E wr/\Kq (sfS F z v D) W wr (sfS F r o E)/\c.length<=10000*B+1+a)) (fun _ i _=>x.size - (intOf i).toNat)
 case atStart=>exact⟨0,0,Ts,nx,k,M,z,v,D,T0,rfl,rfl,dH _,g⟩
 case round =>
  clear g;obtain⟨q,a,c,m,k',M',r,o,E,T,rfl,rfl,ha,hh⟩:=hrel;obtain⟨Q,I,R,t,J,h6⟩:=hh.out;obtain⟨Au,nu,rfl⟩:=zh t.uns;obtain⟨gu,rfl,-,cu⟩:=t.bad I;have kG:=t.blk.cell;simp only [sfC] at kG;have aB:(q:Int)<(c.length:Int):=by have:=(kB.1 I).1;omega
  have b:(a=x.size\/zhk F.p T=jV)->Hid (RetO (SafJ F) (.bool (zu F.s F.p F.L x)) (B+1) (sfS F z v D) W (j7 (.bool (!zhk F.p T))) wr):=fun he=>by
   refine⟨_,by rw [R.fin Hx.out (he.elim (fun e=>.inl (by rw [e,zft])) (fun e=>.inr e))],⟨⟨c,m,k',M',r,o,_,Q,t,oM,rfl⟩,J.frm,J.new⟩⟩
  by_cases hlt:a<x.size
  ·have ao:(a:Int)<(x.size:Int):=oM;cases hb:zhk F.p T with
   |true =>
    have d:=b (.inr hb);rw [hb] at d cu;clear b Q I R t J h6 hh;go_wp2_with fail
    go_ret;exact d.out
   |false =>
    have O:=za hb;rw [hb] at cu;have ay:=Hb.out a hlt;have X:=za (zey hlt);have Z:=za (show ltr (x[a].toNat)=((x[a].toNat - 97:Nat):Int) by unfold ltr;rw [if_neg oM];omega);obtain⟨l,Y⟩:∃ l,Hid (l=x[a].toNat - 97):=⟨x[a].toNat - 97,za rfl⟩;rw [<- Y.out] at X Z;have ah:l<6:=oH Y.out;have H1:=za Q;have H2:=za I;have H3:=za R;have H4:=za t;have H5:=za J;clear b Q I R t J hh hb;go_wp2_with (first
     |(go_at_call 121;refine (zbf x a hlt _).mono ?_;rw [Z.out];rintro e w6 ⟨rfl,rfl⟩)
     |(go_at_call 108;refine (sf_after HF.out H4.out H1.out H2.out ah oM).mono ?_;rintro e w6 ⟨j,f,u,k2,M2,C,y,H,V,rfl,i1,i2,i3,i4,i5,i6,i7⟩))
    have aa:Hid (SfI F.s F.p F.L f u/\f[j]?=fV V/\SfW F.s F.p F.L x (a+1) V/\zeP F f u k2 M2 C y H w6/\Kq (sfS F z v D) W w6 (sfS F C y H)/\f.length<=10000*B+1+(a+1)):=
     ⟨i1,i4,H3.out.step O.out X.out i5,i6,H5.out.trans i7,oM⟩
    go_roundw
    case rel=>exact⟨j,a+1,f,u,k2,M2,C,y,H,V,rfl,gM,oM,aa⟩
    case measure=>exact uM
  ·have az:¬ (a:Int)<(x.size:Int):=oM;have d:=b (.inl oM);clear b Q I R t J h6 hh;go_wp2_with fail
   go_ret;exact d.out
end
theorem Tab.frm {T:Nat->Prop} {W':j2}(h:Tab w)(hx:Ext w W)(hf:Frm T W W')(hT:∀ q,T q->w.heap.size<=q):Tab W':=fun j hj=>by
 have h1:=hx.aa (h j hj)
 have h0:=World.block_lt_of_cell? w _ (h j hj)
 have h2:=World.block_lt_of_cell? W _ h1
 exact (World.cell?_of_block (w:=W) (hf.block _ h2 (fun e=>by have:=hT _ e;omega))).trans h1
structure NsI (F:Sfx) (s:Sys) (p:Aut) (L:Nat) (w wx:j2):Prop where
 ok:zix F
 hs:F.s=s
 hp:F.p=p
 hL:F.L=L
 b0:F.b0=w.heap.size
 blk:Blk wx F.G 152 (sfC F (fF fW 0 0) (fF fW 0 0) (fF fW 0 0))
 map:zdJ 222 litP domP wx F.mb 0 (fun _=>fW)
 w9:wx=F.w9
 ext:Ext w wx
section
variable {w W:j2} {lo hi n c m d m' d' L:Nat} {A B B':Option Addr} {s:Sys} {p:Aut}
theorem ns_fin {w1:j2} {mv rc hc mb:Nat} {RA HA:Option Addr}(hs:zl s=jV)(hp:zj p=jV)(hL:L<64)(hP:zK w lo hi B m B' m' p)(h0:Ext w0 w)(hhi:hi<=w0.heap.size)(hT:Tab w0)(hw1:Ext w w1)(hx:Ext w1 W)(hmvg:w.heap.size<=mv)(hbg:w.heap.size<=base)
  (hmv:MovB W mv s.edges) (htb:∃ bt,w.heap.size<=bt/\W.ownsRow bt 166 6 (fF RA p.next.length rc) p.next.length (tbC p.next.length (aGo p))) (hhd:W.ownsRow base 3 1 (.slice HA (hidS s L).length hc) (hidS s L).length (zah (hidS s L))) (hmp:zdJ 222 litP domP W mb 0 (fun _=>fW)) (hmb:w.heap.size<=mb) :
  ∃ F:Sfx,Value.pointer (fV W.heap.size)=.pointer (fV ⟨F.G,0,fW⟩)/\F.lo=w0.heap.size/\NsI F s p L w (W.alloc (.cells #[s.al,s.st,fF A n c,p.al,fF B m d,fF B' m' d',L,kD (fV mv),fF RA p.next.length rc,.slice HA (hidS s L).length hc,(),.map (fV mb),(),()] 152)):=by
 have i:=eB W 152 #[s.al,s.st,fF A n c,p.al,fF B m d,fF B' m' d',L,kD (fV mv),fF RA p.next.length rc,.slice HA (hidS s L).length hc,(),.map (fV mb),(),()];have f:Ext W (W.alloc (.cells #[s.al,s.st,fF A n c,p.al,fF B m d,fF B' m' d',L,kD (fV mv),fF RA p.next.length rc,.slice HA (hidS s L).length hc,(),.map (fV mb),(),()] 152)):=(cY _).alloc _;generalize W.alloc _=X at *;have x:=(hw1.trans hx).size;have t:=i.lt;have M:=hmp.lt;have g:=(hw1.trans hx).trans f;have j:=hmp.ext f;obtain⟨D,l,J⟩:=hmv.ext f;obtain⟨bt,r,u⟩:=htb;have h:=zi u f;have C:=zi hhd f;refine⟨⟨s,p,L,A,n,c,B,m,d,B',m',d',mv,RA,rc,HA,hc,W.heap.size,mb,w.heap.size,w0.heap.size,X⟩,rfl,rfl,⟨⟨hs,hp,hL,fun Y hY=>?_,h0.size,x,t,hmb,j.lt,by show mb≠W.heap.size;omega⟩,rfl,rfl,rfl,rfl,i,j,rfl,g⟩⟩;have y:∀ q,Sfx.two ⟨s,p,L,A,n,c,B,m,d,B',m',d',mv,RA,rc,HA,hc,W.heap.size,mb,w.heap.size,w0.heap.size,X⟩ q->w0.heap.size<=q:=fun q hq=>by
  have E:=h0.size;rcases hq with e|e|e
  ·have o:q=W.heap.size:=e;omega
  ·have o:q=mb:=e;omega
  ·exact e.1
 have z:∀ {e:TypeId} {sz k b:Nat} {v:j6} {xs:List j6},X.ownsRow b e sz v k xs->w.heap.size<=b->e≠152->∀ q,v.ownBlock=fV q->¬ Sfx.two ⟨s,p,L,A,n,c,B,m,d,B',m',d',mv,RA,rc,HA,hc,W.heap.size,mb,w.heap.size,w0.heap.size,X⟩ q:=fun ho hbb hne q hq h=>by
  rcases h with e|e|e
  ·exact zM ho i hne hq e
  ·have o:q=mb:=e;subst o;exact j.aj ho hq
  ·have H:q<w.heap.size:=e.2;have I:=(ho.lt q hq).1;omega
 have a:Frm (Sfx.two ⟨s,p,L,A,n,c,B,m,d,B',m',d',mv,RA,rc,HA,hc,W.heap.size,mb,w.heap.size,w0.heap.size,X⟩) X Y:=hY;refine⟨hT.frm (h0.trans g) a y,MovB.at_ ⟨D,l.frm a (fun h=>?_),J⟩,?_,?_,⟨lo,hi,((hP.2.2.ext g).frm a (fun q _ I h6=>by have:=y q h6;omega))⟩⟩
 ·rcases h with e|e|e
  ·exact l.diff i dM e
  ·exact j.far l e
  ·have H:mv<w.heap.size:=e.2;omega
 ·exact TbO.at_ ⟨bt,zf h a (z h r dM)⟩
 ·exact⟨_,_,Lst.ai (zf C a (z C hbg dM))⟩
def T00:List Nat:=(dT 12 0).set 0 1
theorem zfP:zaR T00 12 (fun q i=>q=0/\i=0):=zio (n:=12) dM
theorem T00_ws (h:0<p.next.length):WS p T00:=⟨zfP.1,zfP.2.1,fun i q hb=>by rw [((zfP.2.2 i q).1 hb).2];exact h⟩
def RetNs (s:Sys) (p:Aut) (L z:Nat) (w:j2) (e:Ending) (w':j2):Prop:=∃ (F:Sfx) (S:Nat->Prop),e=j7 (.pointer (fV ⟨F.G,0,fW⟩))/\zix F/\F.s=s/\F.p=p/\F.L=L/\F.lo=z/\F.b0=w.heap.size/\SafJ F 0 w' S/\Ext w w'
theorem yX15b1 {P:Prop}(h:P:=by
 go_simp;refine hK.out _ _ ?_;refine pT ?_;refine uQ ?_;refine zg ?_;go_wp2_with fail
 go_meet;obtain⟨F,f1,f2,f3⟩:=zku;exact⟨F,f1,f2,f3⟩
 ):P:=h
theorem yX15a2 {P:Prop}(h:P:=by
 replace htb:=zi htb hy13;refine uQ ?_;refine zb fun K hK=>?_;have zku:=ns_fin (A:=A) (n:=n) (c:=c) (d:=d) (d':=d') Hs.out Hp.out hL64 HP0.out h0 hhi Htab.out hw1 hxw13 hmvw hbhd hmv ⟨bt,hbtw,htb⟩ hhd hmp0 hmbge;exact yX15b1
 ):P:=h
theorem yX15a4 {P:Prop}(h:P:=by
 exact yX15b1
 ):P:=h
theorem zfn (h0:Ext w0 w)(hS:zY w lo hi A n s)(hP:zK w lo hi B m B' m' p)(hs:zl s=jV)(hp:zj p=jV)(hL64:L<64)(hhi:hi<=w0.heap.size)(hT:Tab w0) :
  j8 j5 106 #[j4 #[s.al,s.st,fF A n c,p.al,fF B m d,fF B' m' d',L]] w (RetNs s p L w0.heap.size w):=by
 have Hs:=za hs;have Hp:=za hp;have HP0:=za hP;have Htab:=za hT;have C:=zcl hs;have J:=za (show Few 16 s.edges from fun e he=>by have:=C.2.2.1 e he;have:=C.2.1;omega);obtain⟨ak,am⟩:=zac hs;have aN:s.al.toNat<64:=oM;have D:Sm (diff s.al.toNat L):=by
  have:=diff_le s.al.toNat L;unfold Sm;omega
 have aD:bits .andNot iX s.al (L:Int)=((diff s.al.toNat L:Nat):Int):=by
  have h1:=bits_andNot (a:=s.al.toNat) (b:=L) tM tM;rwa [show ((s.al.toNat:Nat):Int)=s.al by omega] at h1
 have hw1:Ext w (w.alloc (.cells #[s.al,s.st,fF A n c,p.al,fF B m d,fF B' m' d',L] 70)):=(cY _).alloc _;have b1:=eB w 70 #[s.al,s.st,fF A n c,p.al,fF B m d,fF B' m' d',L];have HS:=za (fun X (hX:Ext (w.alloc (.cells #[s.al,s.st,fF A n c,p.al,fF B m d,fF B' m' d',L] 70)) X)=>hS.ext (hw1.trans hX));have HP:=za (fun X (hX:Ext (w.alloc (.cells #[s.al,s.st,fF A n c,p.al,fF B m d,fF B' m' d',L] 70)) X)=>hP.ext (hw1.trans hX));have aP:=(zk hp).2.1;clear hs hp hS hP hT C ak am;have aO:=@run_makeMap j5
 go_enter Tryz.func106,Tryz.ntmps106
 go_upto_region 1 with fail
 generalize w.alloc _=w1 at *;have aE:=hw1.size
 go_cut [3] (fun v3 wx=>∃ F:Sfx,v3=.pointer (fV ⟨F.G,0,fW⟩)/\F.lo=w0.heap.size/\NsI F s p L w wx)
 case first =>
  have CX:∀ X,Ext w1 X->∀ q,X.cell? ⟨w.heap.size,q,fW⟩=#[Value.int iX s.al,.int iX s.st,fF A n c,.int iX p.al,fF B m d,fF B' m' d',.int iX L][q]?:=fun X hX=>(b1.ext hX).cell;have av:=cY w1;refine uR (fun X=>Ext w1 X) [16] (zx.app [0,1,2,4,5,7,8,9,10,11,12] (zx.two 3 (zx.two 6 (zx.two 13 (zx.of [14,15,16,17]) 14 (zx.of [13,15,16,17])) 14 (zx.of [6,13,15,16,17])) 14 (zx.of [3,6,13,15,16,17]))) ?_;refine uQ ?_;have v:=av.drew;generalize w1.drew=R at *;refine zm (fun K hK=>?_) (fun K hK=>?_)
  ·go_simp;refine (zeD (HS.out _ v) J.out).mono ?_;rintro e I ⟨mv,rfl,O,hmv,E⟩;have hmvw:w.heap.size<=mv:=oH v.size;have o:=v.trans E;refine hK.out _ _ o ?_;refine pT ?_;refine zm (fun K hK=>?_) (fun K hK=>?_)
   ·go_simp;refine (zci (HP.out _ o) Hp.out).mono ?_;rintro e z ⟨RA,rc,rfl,⟨bt,aa,htb⟩,t⟩;have hbtw:w.heap.size<=bt:=oH o.size;have g:=o.trans t;refine hK.out _ _ g ?_;refine pT ?_;replace hmv:=hmv.ext t;refine zm (fun K hK=>?_) (fun K hK=>?_)
    ·go_simp;refine (zaf (diff s.al.toNat L) D _).mono ?_;rintro e u ⟨HA,hc,rfl,hhd,hy13⟩;have hbhd:w.heap.size<=z.heap.size:=oH g.size;have hxw13:=g.trans hy13;refine hK.out _ _ hxw13 ?_;refine pT ?_;replace hmv:=hmv.ext hy13;replace htb:=zi htb hy13;refine ze fun K hK=>?_;go_simp;have hmp0:zdJ 222 litP domP (u.alloc (.map #[] 0)) u.heap.size 0 (fun _=>fW):=zdJ.made u;have h:Ext u (u.alloc (.map #[] 0)):=(cY _).alloc _;obtain⟨x,r⟩:∃ x,Hid (x=u.heap.size):=⟨_,rfl⟩;have hmbge:w.heap.size<=x:=by have:=hxw13.size;have:=r.out;omega
     have f:=hxw13.trans h;rw [<- r.out] at hmp0 ⊢;refine hK.out _ _ f ?_;generalize u.alloc (.map #[] 0)=H at *;refine pT ?_;replace hmv:=hmv.ext h;replace htb:=zi htb h;replace hhd:=zi hhd h;refine uQ ?_;refine zb fun K hK=>?_;have zku:=ns_fin (A:=A) (n:=n) (c:=c) (d:=d) (d':=d') Hs.out Hp.out hL64 HP0.out h0 hhi Htab.out hw1 f hmvw hbhd hmv ⟨bt,hbtw,htb⟩ hhd hmp0 hmbge;exact yX15a4
    ·go_simp;have hmp0:zdJ 222 litP domP (z.alloc (.map #[] 0)) z.heap.size 0 (fun _=>fW):=zdJ.made z;have h:Ext z (z.alloc (.map #[] 0)):=(cY _).alloc _;obtain⟨x,r⟩:∃ x,Hid (x=z.heap.size):=⟨_,rfl⟩;have hmbge:w.heap.size<=x:=by have:=g.size;have:=r.out;omega
     have f:=g.trans h;rw [<- r.out] at hmp0 ⊢;refine hK.out _ _ f ?_;generalize z.alloc (.map #[] 0)=H at *;refine pT ?_;replace hmv:=hmv.ext h;replace htb:=zi htb h;refine ze fun K hK=>?_;go_simp;refine (zaf (diff s.al.toNat L) D _).mono ?_;rintro e u ⟨HA,hc,rfl,hhd,hy13⟩;have hbhd:w.heap.size<=H.heap.size:=oH f.size;have hxw13:=f.trans hy13;refine hK.out _ _ hxw13 ?_;refine pT ?_;replace hmv:=hmv.ext hy13;replace htb:=zi htb hy13;replace hmp0:=hmp0.ext hy13;refine uQ ?_;refine zb fun K hK=>?_;have zku:=ns_fin (A:=A) (n:=n) (c:=c) (d:=d) (d':=d') Hs.out Hp.out hL64 HP0.out h0 hhi Htab.out hw1 hxw13 hmvw hbhd hmv ⟨bt,hbtw,htb⟩ hhd hmp0 hmbge;exact yX15a4
   ·go_simp;have hmp0:zdJ 222 litP domP (I.alloc (.map #[] 0)) I.heap.size 0 (fun _=>fW):=zdJ.made I;have h:Ext I (I.alloc (.map #[] 0)):=(cY _).alloc _;obtain⟨x,r⟩:∃ x,Hid (x=I.heap.size):=⟨_,rfl⟩;have hmbge:w.heap.size<=x:=by have:=o.size;have:=r.out;omega
    have f:=o.trans h;rw [<- r.out] at hmp0 ⊢;refine hK.out _ _ f ?_;generalize I.alloc (.map #[] 0)=H at *;refine pT ?_;replace hmv:=hmv.ext h;refine ze fun K hK=>?_;go_simp;refine (zci (HP.out _ f) Hp.out).mono ?_;rintro e z ⟨RA,rc,rfl,⟨bt,aa,htb⟩,t⟩;have hbtw:w.heap.size<=bt:=oH f.size;have g:=f.trans t;refine hK.out _ _ g ?_;refine pT ?_;replace hmv:=hmv.ext t;replace hmp0:=hmp0.ext t;refine ze fun K hK=>?_;go_simp;refine (zaf (diff s.al.toNat L) D _).mono ?_;rintro e u ⟨HA,hc,rfl,hhd,hy13⟩;have hbhd:w.heap.size<=z.heap.size:=oH g.size;have hxw13:=g.trans hy13;refine hK.out _ _ hxw13 ?_;refine pT ?_;replace hmv:=hmv.ext hy13;replace hmp0:=hmp0.ext hy13;exact yX15a2
  ·go_simp;have hmp0:zdJ 222 litP domP (R.alloc (.map #[] 0)) R.heap.size 0 (fun _=>fW):=zdJ.made R;have h:Ext R (R.alloc (.map #[] 0)):=(cY _).alloc _;obtain⟨x,r⟩:∃ x,Hid (x=R.heap.size):=⟨_,rfl⟩;have hmbge:w.heap.size<=x:=by have:=v.size;have:=r.out;omega
   have f:=v.trans h;rw [<- r.out] at hmp0 ⊢;refine hK.out _ _ f ?_;generalize R.alloc (.map #[] 0)=H at *;refine pT ?_;refine ze fun K hK=>?_;go_simp;refine (zeD (HS.out _ f) J.out).mono ?_;rintro e I ⟨mv,rfl,O,hmv,E⟩;have hmvw:w.heap.size<=mv:=oH f.size;have o:=f.trans E;refine hK.out _ _ o ?_;refine pT ?_;replace hmp0:=hmp0.ext E;refine ze fun K hK=>?_;go_simp;refine (zci (HP.out _ o) Hp.out).mono ?_;rintro e z ⟨RA,rc,rfl,⟨bt,aa,htb⟩,t⟩;have hbtw:w.heap.size<=bt:=oH o.size;have g:=o.trans t;refine hK.out _ _ g ?_;refine pT ?_;replace hmp0:=hmp0.ext t;replace hmv:=hmv.ext t;refine ze fun K hK=>?_;go_simp;refine (zaf (diff s.al.toNat L) D _).mono ?_;rintro e u ⟨HA,hc,rfl,hhd,hy13⟩;have hbhd:w.heap.size<=z.heap.size:=oH g.size;have hxw13:=g.trans hy13;refine hK.out _ _ hxw13 ?_;refine pT ?_;replace hmp0:=hmp0.ext hy13;replace hmv:=hmv.ext hy13;exact yX15a2
 case rest =>
  obtain⟨F,rfl,aq,hN⟩:=hcut;obtain⟨ad,rfl,rfl,rfl,an,Z,ab,ae,aw⟩:=hN;have V:zeP F [] (fun _ _ => -1) 0 (fun _=>fW) (fF fW 0 0) (fF fW 0 0) (fF fW 0 0) wc:=by
   refine⟨by rw [ae];exact Frm.refl _ _,Z,World.ownsRow_nil _ _ _ _,World.ownsRow_nil _ _ _ _,World.ownsRow_nil _ _ _ _,ab,NumI.nil,dE _,fun T hT=>by simp at hT⟩
  have M:=za V;have y:=za ad;have S:=za (T00_ws (p:=F.p) oM);clear V ad Z ab ae;go_wp2_with (first
   |(go_at_call 197;refine (sf_close (T0:=T00) y.out M.out S.out).mono ?_;rintro e w2 ⟨U,rfl,hU,Q⟩)
   |(go_at_call 196;refine (sf_add (U:=U) y.out (M.out.ext y.out Q) ⟨hU.1,hU.2.1,fun i q hb=>ziR Hp.out (fun q i hb=>S.out.row i q hb) ((hU.2.2 i q).1 hb)⟩ dM).mono ?_;rintro e I ⟨j,aH,aR,k',M',az,ay,aA,rfl,ar,ap,aj,au⟩))
  go_ret;rcases ar with ⟨rfl,rfl⟩|⟨rfl,rfl⟩
  ·simp at ap
  have Y:zaR U 12 (PR F.s F.p F.L []):=by
   rw [PR_nil,<- zfP.eq];exact hU
  have hI:SfI F.s F.p F.L ([]++[U]) (fun k l=>if k=([]:List (List Nat)).length then -1 else (fun _ _=>(-1:Int)) k l):=
   ⟨fun T hT=>by
    obtain rfl:T=U:=by simpa using hT
    exact start_ws Y Hp.out oM,⟨U,rfl,Y⟩,fun k l _ _=>.inl (by dsimp only;split<;>rfl)⟩
  refine⟨F,_,rfl,y.out,rfl,rfl,rfl,aq,an,⟨_,_,k',M',az,ay,aA,hI,aj,sM,rfl⟩,(aw.trans Q).frm au.frm (fun q hq hs=>?_)⟩;have:=(M.out.ext y.out Q).low0 y.out hs;omega
end
section
variable {w W:j2} {lo hi n c m d m' d' L:Nat} {A B B':Option Addr} {s:Sys} {p:Aut}
theorem zfm (hS:zY w lo hi A n s)(hP:zK w lo hi B m B' m' p)(hv:zl s=jV)(hp:zj p=jV)(hL:L<64) :
  j8 j5 105 #[j4 #[s.al,s.st,fF A n c,p.al,fF B m d,fF B' m' d',L]] w fun e w'=>e=j7 (.bool jV)/\Ext w w':=by
 have i:=za (fun W (hW:Ext w W)=>zbl (c:=c) (hS.ext hW));have h:=za (fun W (hW:Ext w W)=>zae _ _ _ _ d _ _ d' _ _ (hP.ext hW));rw [hv] at i;rw [hp] at h;have f:=za (show (decide ((0:Int)<=L/\(L:Int)<=63))=jV by simp;omega);clear hS hP hv hp
 go_enter Tryz.func105,Tryz.ntmps105
 go_upto_region 1 with fail
 generalize U0:w.alloc _=l at *;obtain⟨hw1,j⟩:=gP U0;clear U0;have o:=j.cells;have k:=cY l;go_wp2_with (first
  |(go_at_call 65;refine (i.out _ hw1).mono (mQ fun q a=>?_))
  |(go_at_call 25;refine (h.out _ (hw1.trans a)).mono (mQ fun r g=>?_);have b:=a.trans g)
  |(go_at_call 82;refine (zaj _ _).mono ?_;rw [f.out];rintro e t ⟨rfl,rfl⟩))
 go_ret;exact⟨rfl,hw1.trans b⟩
theorem zfe (hS:zY w lo hi A n s)(hP:zK w lo hi B m B' m' p)(hv:zl s=jV)(hp:zj p=jV)(hL:L<64) :
  j8 j5 118 #[j4 #[j9 j3,(0:Int),(),(),s.al,s.st,fF A n c,p.al,fF B m d,fF B' m' d',L]] w fun e w'=>e=j7 (.int iX L)/\Ext w w':=by
 have b:=za (fun W (hW:Ext w W)=>zfm (c:=c) (d:=d) (d':=d') (hS.ext hW) (hP.ext hW) hv hp hL);clear hS hP hv hp
 go_enter Tryz.func118,Tryz.ntmps118
 go_upto_region 1 with fail
 generalize U0:w.alloc _=h at *;obtain⟨hw1,f⟩:=gP U0;clear U0;have i:=f.cells;have g:=cY h;go_wp2_with (go_at_call 105;refine (b.out _ hw1).mono (mQ fun j a=>?_))
 go_ret;exact⟨rfl,hw1.trans a⟩
theorem sf_orc {F:Sfx}(hF:zix F):zhy F.lo F.L (zu F.s F.p F.L) (SafJ F) 122 (.pointer (fV ⟨F.G,0,fW⟩)) where
 ok:=SafJ.ok hF
 in_:=fun args W=>kM
 ask:=fun B W S x hJ hB hx hxs=>sf_safe hF hJ hB hx hxs
def RetOr (s:Sys) (p:Aut) (L z:Nat) (w:j2) (e:Ending) (w':j2):Prop:=
 ∃ (F:Sfx) (S:Nat->Prop),e=j7 (.tuple #[orcV L 122 (.pointer (fV ⟨F.G,0,fW⟩)),j9 jV])/\zix F/\F.s=s/\F.p=p/\F.L=L/\F.lo=z/\w.heap.size<=F.b0/\SafJ F 0 w' S/\Ext w w'
theorem SafJ.low0 {F:Sfx}(hF:zix F) {B:Nat}  (h:SafJ F B W S) {j:Nat}(hj:S j):F.b0<=j:=by
 obtain⟨Ts,d,k,M,g,f,i,b,a,c,rfl⟩:=h;exact a.low0 hF hj
theorem ziF (h0:Ext w0 w)(hS:zY w lo hi A n s)(hP:zK w lo hi B m B' m' p)(hv:zl s=jV)(hp:zj p=jV)(hL:L<64)(hhi:hi<=w0.heap.size)(hT:Tab w0) :
  j8 j5 49 #[j4 #[j9 j3,(0:Int),(),(),s.al,s.st,fF A n c,p.al,fF B m d,fF B' m' d',L]] w (RetOr s p L w0.heap.size w):=by
 have V:=za (fun W (hW:Ext w W)=>zfe (c:=c) (d:=d) (d':=d') (hS.ext hW) (hP.ext hW) hv hp hL);have Y:=za (fun W (hW:Ext w W)=>zfn (c:=c) (d:=d) (d':=d') (h0.trans hW) (hS.ext hW) (hP.ext hW) hv hp hL hhi hT);clear hS hP hv hp;have ae:¬ ((L:Int)<0):=oM
 go_enter Tryz.func49,Tryz.ntmps49
 go_upto_region 1 with fail
 generalize U0:(w.alloc _).alloc _=R at *;obtain⟨hw1,Z,b2⟩:=Ext.x2_ U0;have af:w.heap.size+1<R.heap.size:=by rw [<- U0];simp
 clear U0;have U:∀ X,Ext R X->∀ q,X.cell? ⟨w.heap.size,q,fW⟩=#[j9 j3,.int iX 0,fF fW 0 0,fF fW 0 0,.int iX s.al,.int iX s.st,fF A n c,.int iX p.al,fF B m d,fF B' m' d',.int iX L][q]?:=fun X hX=>(Z.ext hX).cell;have ah:=cY R;have ad:=h0.size;go_upto_region 99 with (go_at_call 118;refine (V.out _ hw1).mono (mQ fun w2 g=>?_))
 refine (Y.out _ (hw1.trans g)).mono ?_;rintro e x ⟨F,S,rfl,f,o,l,k,b,J,y,Q⟩;have h:=g.trans Q;have a:=b2.ext h;have k2:=a.cell;have f2:=a.frozen;have H:=za f;have HJ:=za y;have E:=za o;have D:=za l;have z:=za k;have j:=za b;have C:=za (show w.heap.size<=F.b0 by have:=g.size;have:=hw1.size;omega);have r:¬ S (w.heap.size+1):=fun hs=>by
  have I:=SafJ.low0 f y hs;have h2:=g.size;omega
 have O:=(dG x (w.heap.size+1) 0 (.int iX (L:Int))).trans (dG _ (w.heap.size+1) 1 (.func (.func 122) #[kD (fV ⟨F.G,0,fW⟩)] #[]));have M:=za ((SafJ.ok f).keep y O (fun q _ e=>by have T:q=w.heap.size+1:=e;rw [T,b];exact⟨oM,r⟩));have u:=za ((hw1.trans h).frm O (fun q hq e=>by have T:q=w.heap.size+1:=e;omega));have t:=(a.ae 0 (.int iX (L:Int))).ae 1 (.func (.func 122) #[kD (fV ⟨F.G,0,fW⟩)] #[]);have cf:∀ i,((x.setCell ⟨w.heap.size+1,0,fW⟩ (.int iX (L:Int))).setCell ⟨w.heap.size+1,1,fW⟩ (.func (.func 122) #[kD (fV ⟨F.G,0,fW⟩)] #[])).cell? ⟨w.heap.size+1,i,fW⟩=#[Value.int iX (L:Int),.func (.func 122) #[kD (fV ⟨F.G,0,fW⟩)] #[]][i]?:=fun i=>by
  have:=t.cell i;simpa using this
 have ag:(store ⟨w.heap.size+1,1,fW⟩ (.func (.func 122) #[kD (fV ⟨F.G,0,fW⟩)] #[])).run j5 (x.setCell ⟨w.heap.size+1,0,fW⟩ (.int iX (L:Int)))=.ok () ((x.setCell ⟨w.heap.size+1,0,fW⟩ (.int iX (L:Int))).setCell ⟨w.heap.size+1,1,fW⟩ (.func (.func 122) #[kD (fV ⟨F.G,0,fW⟩)] #[])):=by
  rw [run_store _ _ _ _ _ rfl];have I:=a.ae 0 (.int iX (L:Int));rw [I.cell,I.frozen];rfl
 clear f y o l k b J r O t a U;go_wp2_with fail
 clear k2 f2;generalize (x.setCell ⟨w.heap.size+1,0,fW⟩ (.int iX (L:Int))).setCell ⟨w.heap.size+1,1,fW⟩ (.func (.func 122) #[kD (fV ⟨F.G,0,fW⟩)] #[])=w9 at *;exact bodyPost_ret (v:=.tuple #[orcV L 122 (.pointer (fV ⟨F.G,0,fW⟩)),j9 jV]) (by simp [results,Tryz.results49,go_sem,cf]) rfl ⟨F,S,rfl,H.out,E.out,D.out,z.out,j.out,C.out,M.out,u.out⟩
end
section
variable {w:j2} {lo hi n c lo1 hi1 m d m' d' lo2 hi2 k c2:Nat} {A B B' C:Option Addr} {s t:Sys} {p:Aut}
theorem impl_TaskOf (hs:zY w lo hi A n s)(hp:zK w lo1 hi1 B m B' m' p)(ht:zY w lo2 hi2 C k t)(hif:iface s p t=(L:Int))(hn:n<=1000000) :
  j8 j5 39 #[j4 #[s.al,s.st,fF A n c],j4 #[p.al,fF B m d,fF B' m' d'],j4 #[t.al,t.st,fF C k c2]] w (zjs w s p L):=by
 obtain⟨vs,vp,vt⟩:=zbk (show 0<=iface s p t by omega);have hL:L<64:=by
  rw [zeC vs vp vt] at hif;have h1:=zac vt;have h2:((s.al.toNat|||p.al.toNat)&&&t.al.toNat)<=t.al.toNat:=Nat.and_le_right;omega
 have M:=za (fun W (hW:Ext w W)=>zev (c:=c) (d1:=d) (d1':=d') (c2:=c2) (hs.ext hW) (hp.ext hW) (ht.ext hW));rw [hif] at M;have HK:=za (fun W (hW:Ext w W)=>clone_edge (c:=c) (hs.2.ext hW) oM);have HC:=za (fun W (hW:Ext w W)=>zaT (c:=d) (c':=d') (hp.ext hW) (zcW vp));have hV:=za (And.intro vs (And.intro vp hL));have ak:=za hs.1;clear hs hp ht hif vs vp vt;obtain⟨w0,U0⟩:∃ x,Hid ((((w.alloc (.cells #[s.al,s.st,fF A n c] 38)).alloc (.cells #[p.al,fF B m d,fF B' m' d'] 27)).alloc (.cells #[t.al,t.st,fF C k c2] 38)).alloc (.cells #[(0:Int),(0:Int),(),(0:Int),(),(),(0:Int)] 70)=x):=⟨_,za rfl⟩;have H:Ext w w0:=(((((cY _).alloc _).alloc _).alloc _).alloc _).trans (eX U0.out);obtain⟨b1,b2,b3⟩:=zL (((cY _).alloc (.cells #[(0:Int),(0:Int),(),(0:Int),(),(),(0:Int)] 70)).trans (eX U0.out));have b4:=dZ U0.out;simp only [World.size_alloc] at b4;have aK:¬ ((L:Int)<0):=oM
 go_enter Tryz.func39,Tryz.ntmps39
 go_upto_region 1 with fail
 rw [U0.out] at *;have k1:=b1.cell;have k2:=b2.cell;have k3:=b3.cell;go_upto_region 4 with (go_at_call 83;refine (M.out _ H).mono (mQ fun w1 i=>?_))
 have I:=H.trans i;have F:=b1.ext i;have k1:=F.cell;go_upto_region 99 with fail
 refine (HK.out _ I).mono ?_;rintro e w2 ⟨v',rfl,ho,y⟩;obtain⟨g,h,rfl⟩:=zh ho;have l:=F.ext y;have k1:=l.cell;have f1:=l.frozen;have Q:=b4.ext (i.trans y);have O:=b2.ext (i.trans y);go_upto_region 5 with fail
 have G:=dG w2 w.heap.size 2 (fF g n h);have o:Ext w (w2.setCell ⟨w.heap.size,2,fW⟩ (fF g n h)):=(I.trans y).frm G (fun q hq e=>by have e':q=w.heap.size:=e;omega);have af:Blk (w2.setCell ⟨w.heap.size,2,fW⟩ (fF g n h)) w.heap.size 38 #[.int iX s.al,.int iX s.st,fF g n h]:=by simpa using l.ae 2 (fF g n h)
 have R:=Q.far (p:=⟨w.heap.size,2,fW⟩) (by show w.heap.size+1+1+1≠w.heap.size;omega) (fF g n h);have ag:=O.far (p:=⟨w.heap.size,2,fW⟩) (by show w.heap.size+1≠w.heap.size;omega) (fF g n h);have aC:=I.size;have aB:=H.size;have ay:=b4.lt;have aA:=i.size;have V:=zf ho G (fun b hb e=>zM ho l dM hb e);clear k1 f1 k2 k3 F l Q O G ho;generalize w2.setCell ⟨w.heap.size,2,fW⟩ (fF g n h)=J at *;have C1:∀ X,Ext J X->∀ q,X.cell? ⟨w.heap.size,q,fW⟩=#[Value.int iX s.al,.int iX s.st,fF g n h][q]?:=fun X hX=>(af.ext hX).cell;have C2:∀ X,Ext J X->∀ q,X.cell? ⟨w.heap.size+1,q,fW⟩=#[Value.int iX p.al,fF B m d,fF B' m' d'][q]?:=fun X hX=>(ag.ext hX).cell;have aa:=cY J;refine uR (fun X=>Ext J X) [5] (zx.of [0,1,3,2,4,5,6]) ?_;refine uQ ?_;refine ze fun K hK=>?_;go_simp;refine (HC.out _ (o.trans aa.drew)).mono ?_;rintro e r ⟨u,z,d1,a,f,d1',rfl,U,am⟩;have j:=aa.drew.trans am;refine hK.out _ _ j ?_;refine pT ?_;refine uQ ?_;have S:=R.ext j;have kz:=S.cell;have fz:=S.frozen;have Z:=zi V j;have az:=S.lt;have ax:=j.size;have aI:=o.size;have E:zY r (w.heap.size+1+1+1+1) r.heap.size g n s:=⟨ak.out,(Reads.af Z).more oM (dE _)⟩;have aj:=R.lt;have aL:J.drew.heap.size=J.heap.size:=rfl;have D:zK r (w.heap.size+1+1+1+1) r.heap.size u z a f p:=(U.reads).more oM (dE _);have T:Frm (fun k=>k=w.heap.size+1+1+1) r (((((((r.setCell ⟨w.heap.size+1+1+1,0,fW⟩ s.al).setCell ⟨w.heap.size+1+1+1,1,fW⟩ s.st).setCell ⟨w.heap.size+1+1+1,2,fW⟩ (fF g n h)).setCell ⟨w.heap.size+1+1+1,3,fW⟩ p.al).setCell ⟨w.heap.size+1+1+1,4,fW⟩ (fF u z d1)).setCell ⟨w.heap.size+1+1+1,5,fW⟩ (fF a f d1')).setCell ⟨w.heap.size+1+1+1,6,fW⟩ L):=
  ((((((dG r _ 0 _).trans (dG _ _ 1 _)).trans (dG _ _ 2 _)).trans (dG _ _ 3 _)).trans (dG _ _ 4 _)).trans (dG _ _ 5 _)).trans (dG _ _ 6 _)
 have bW:Blk (((((((r.setCell ⟨w.heap.size+1+1+1,0,fW⟩ s.al).setCell ⟨w.heap.size+1+1+1,1,fW⟩ s.st).setCell ⟨w.heap.size+1+1+1,2,fW⟩ (fF g n h)).setCell ⟨w.heap.size+1+1+1,3,fW⟩ p.al).setCell ⟨w.heap.size+1+1+1,4,fW⟩ (fF u z d1)).setCell ⟨w.heap.size+1+1+1,5,fW⟩ (fF a f d1')).setCell ⟨w.heap.size+1+1+1,6,fW⟩ L) (w.heap.size+1+1+1) 70 #[.int iX s.al,.int iX s.st,fF g n h,.int iX p.al,fF u z d1,fF a f d1',.int iX L]:=by
  simpa using ((((((S.ae 0 (.int iX s.al)).ae 1 (.int iX s.st)).ae 2 (fF g n h)).ae 3 (.int iX p.al)).ae 4 (fF u z d1)).ae 5 (fF a f d1')).ae 6 (.int iX L)
 refine zb fun K hK=>?_;go_simp;generalize (((((((r.setCell ⟨w.heap.size+1+1+1,0,fW⟩ s.al).setCell ⟨w.heap.size+1+1+1,1,fW⟩ s.st).setCell ⟨w.heap.size+1+1+1,2,fW⟩ (fF g n h)).setCell ⟨w.heap.size+1+1+1,3,fW⟩ p.al).setCell ⟨w.heap.size+1+1+1,4,fW⟩ (fF u z d1)).setCell ⟨w.heap.size+1+1+1,5,fW⟩ (fF a f d1')).setCell ⟨w.heap.size+1+1+1,6,fW⟩ L)=X at *;have Y:=za (show zjs w s p L (j7 (.tuple #[j4 #[s.al,s.st,fF g n h,p.al,fF u z d1,fF a f d1',L],j9 jV])) X from
  ⟨g,n,h,u,z,d1,a,f,d1',rfl,⟨⟨w.heap.size+1+1+1+1,r.heap.size,E.frm T (fun k h1 h2 e=>oM),D.frm T (fun k h1 h2 e=>oM),T.size⟩,hV.out.1,hV.out.2.1,hV.out.2.2⟩,(o.trans j).frm T (fun k hk e=>oM)⟩)
 have cf:=bW.cell;clear T bW E D kz fz S Z U V;refine hK.out _ _ ?_;clear hK;refine pT ?_;refine uQ ?_;refine zg ?_;go_wp2_with fail
 exact bodyPost_ret (v:=.tuple #[j4 #[s.al,s.st,fF g n h,p.al,fF u z d1,fF a f d1',L],j9 jV]) (by simp [results,Tryz.results39,go_sem,cf]) rfl Y.out
end
theorem noA_own (W:j2) (base:Nat):zT W base fW 0 0 fW 0 0 noA:=⟨⟨[],World.ownsRow_nil _ _ _ _,zB.nil _ _⟩,rfl,World.ownsRow_nil _ _ _ _,rfl⟩
section
variable {w:j2} {lo1 hi1 lo2 hi2 k c2 k1 d1 k1' d1':Nat} {C X X':Option Addr} {t:Sys} {a:Aut}
theorem zfC (ht:zY w lo2 hi2 C k t)(ha:zK w lo1 hi1 X k1 X' k1' a)(hT:Tab w) :
  j8 j5 161 #[j4 #[t.al,t.st,fF C k c2],j4 #[a.al,fF X k1 d1,fF X' k1' d1']] w fun e w'=>e=j7 (.tuple #[kC (zaq [t] a),j9 (zbT [t] a)])/\Ext w w':=by
 have n:=za (fun W (hW:Ext w W)=>ht.ext hW);have j:=za (fun W (hW:Ext w W)=>ha.ext hW);have l:=za (fun W (hW:Ext w W)=>hT.ext hW);clear ht ha hT
 go_enter Tryz.func161,Tryz.ntmps161
 go_upto_region 1 with fail
 generalize U0:(w.alloc _).alloc _=i at *;obtain⟨d,o,p⟩:=Ext.x2_ U0;clear U0;have u:=o.cell;have b:=(cY i).alloc (.cells #[t.al,t.st,fF C k c2] 38);have h:=eB i 38 #[t.al,t.st,fF C k c2];obtain⟨s,r,f⟩:=sl_one h (n.out _ (d.trans b));have q:=(p.ext b).cell;have m:=za (zbU (c:=1) (d2:=d1) (d2':=d1') f (j.out _ (d.trans b)) (l.out _ (d.trans b)));clear f h;go_wp2_with fail
 refine m.out.mono (mQ fun v g=>?_);go_wp2_with fail
 go_ret2;exact⟨rfl,(d.trans b).trans g⟩
end
section
variable {w:j2} {lo hi n c lo1 hi1 m d m' d' lo2 hi2 k c2:Nat} {A B B' C:Option Addr} {s t:Sys} {p:Aut}
theorem zhH {P:Program} (w:j2) (d:Nat) (t:TypeId) {ps rs:Array TypeId} (h:P.underlying t=fV (.func ps rs v)):(Op.equalIn (d+1) t .nilFunc .nilFunc).run P w=.ok jV w:=by
 simp [Op.equalIn,run_underlying h]
@[go_sem] theorem neq_nilFunc {P:Program} (w:j2) (t:TypeId) {ps rs:Array TypeId}  (h:P.underlying t=fV (.func ps rs v)):(binOp .neq t .nilFunc .nilFunc).run P w=.ok (.bool j3) w:=by
 simp only [binOp];simp [show (Op.equal t .nilFunc .nilFunc).run P w=.ok jV w from zhH w 9999 t h]
@[go_sem] theorem neq_nilFuncP (w:j2):(binOp .neq 197 .nilFunc .nilFunc).run j5 w=.ok (.bool j3) w:=neq_nilFunc w _ rfl
theorem store_func (kn:Nat) (rc:j6) (X:j2) (g:Nat)(h1:(X.cell? ⟨g,1,fW⟩).isSome=jV)(h2:X.frozen? ⟨g,1,fW⟩=j3):(store ⟨g,1,fW⟩ (.func (.func kn) #[rc] #[])).run j5 X=.ok () (X.setCell ⟨g,1,fW⟩ (.func (.func kn) #[rc] #[])):=by
 rw [run_store _ _ _ _ _ rfl];obtain⟨u,a⟩:=kL.1 h1;rw [a,h2];rfl
theorem vd_fin {Z:Nat} {a0 a1 a2 a3 a4 a5:j6}(hx:Ext w W)(hb:Blk W Z 42 #[a0,a1,a2,a3,a4,a5])(hZ:w.heap.size<=Z) (u0 u1 u2 u3 u4 u5:j6) :
  Blk ((((((W.setCell Z u0).setCell ⟨Z,1,fW⟩ u1).setCell ⟨Z,2,fW⟩ u2).setCell ⟨Z,3,fW⟩ u3).setCell ⟨Z,4,fW⟩ u4).setCell ⟨Z,5,fW⟩ u5) Z 42 #[u0,u1,u2,u3,u4,u5] /\
  Frm (fun k=>k=Z) W ((((((W.setCell Z u0).setCell ⟨Z,1,fW⟩ u1).setCell ⟨Z,2,fW⟩ u2).setCell ⟨Z,3,fW⟩ u3).setCell ⟨Z,4,fW⟩ u4).setCell ⟨Z,5,fW⟩ u5) /\
  Ext w ((((((W.setCell Z u0).setCell ⟨Z,1,fW⟩ u1).setCell ⟨Z,2,fW⟩ u2).setCell ⟨Z,3,fW⟩ u3).setCell ⟨Z,4,fW⟩ u4).setCell ⟨Z,5,fW⟩ u5):=by
 have a:=zhZ W Z u0 u1 u2 u3 u4 u5;exact⟨by simpa using (((((hb.ae 0 u0).ae 1 u1).ae 2 u2).ae 3 u3).ae 4 u4).ae 5 u5,a,hx.frm a (fun q hq e=>by have b:q=Z:=e;omega)⟩
def TabV3 (W:j2) (S:Nat->Prop) (base g:Nat) (o:Option (List ByteArray × List ByteArray)):Prop:=
 ¬ S g/\((o=fW/\∃ u v,Blk W g 90 #[u,v])\/∃ (rs cs:List ByteArray) (R C:Option Addr) (cr cc:Nat),o=fV (rs,cs)/\Blk W g 90 #[fF R rs.length cr,fF C cs.length cc]/\zhi W S base R rs.length cr C cs.length cc rs cs)
theorem zjo {base' cr2 cc2:Nat} {R2 C2:Option Addr} {u v:j6} {rs2 cs2:List ByteArray}(hb:Blk W g 90 #[u,v])(hg:¬ S g)(ht:zhi W S base' R2 rs2.length cr2 C2 cs2.length cc2 rs2 cs2)(h1:base<=base')(h2:g<base') :
  TabV3 ((W.setCell g (fF R2 rs2.length cr2)).setCell ⟨g,1,fW⟩ (fF C2 cs2.length cc2)) S base g (fV (rs2,cs2)):=by
 have i:=(ht.r.frm (dG W g 0 (fF R2 rs2.length cr2)) (fun b hb e=>by have:=(ht.r.own.lt b hb).1;have f:b=g:=e;omega));have h:=(ht.c.frm (dG W g 0 (fF R2 rs2.length cr2)) (fun b hb e=>by have:=(ht.c.own.lt b hb).1;have f:b=g:=e;omega));have d:=(i.frm (dG _ g 1 (fF C2 cs2.length cc2)) (fun b hb e=>by have:=(i.own.lt b hb).1;have f:b=g:=e;omega));have a:=(h.frm (dG _ g 1 (fF C2 cs2.length cc2)) (fun b hb e=>by have:=(h.own.lt b hb).1;have f:b=g:=e;omega));exact⟨hg,.inr ⟨rs2,cs2,R2,C2,cr2,cc2,rfl,by simpa using (hb.ae 0 (fF R2 rs2.length cr2)).ae 1 (fF C2 cs2.length cc2),⟨⟨zn d.own h1,d.far⟩,⟨zn a.own h1,a.far⟩⟩⟩⟩
theorem zhN (hs:zY w lo hi A n s)(hp:zK w lo1 hi1 B m B' m' p)(ht:zY w lo2 hi2 C k t)(hif:iface s p t=(L:Int))(hn:n<=1000000)(hT:Tab w) :
  j8 j5 72 #[j4 #[s.al,s.st,fF A n c],j4 #[t.al,t.st,fF C k c2],j4 #[p.al,fF B m d,fF B' m' d'],.nilFunc] w (zhz w (vpT s t p)):=by
 obtain⟨vs,vp,vt⟩:=zbk (show 0<=iface s p t by omega);have ci:=za (fun W (hW:Ext w W)=>impl_TaskOf (c:=c) (d:=d) (d':=d') (c2:=c2) (hs.ext hW) (hp.ext hW) (ht.ext hW) hif hn);have HS:=za (fun W (hW:Ext w W)=>hs.ext hW);have HP:=za (fun W (hW:Ext w W)=>hp.ext hW);have cj:=za (fun W (hW:Ext w W)=>ht.ext hW);have ch:=za (fun W (hW:Ext w W)=>show j8 j5 30 #[fF (fV W.heap.size) 2 2,j4 #[p.al,fF B m d,fF B' m' d']] (W.alloc (.cells #[s.al,s.st,fF A n c,t.al,t.st,fF C k c2] 38)) (fun e w'=>e=j7 (.tuple #[kC (zaq [s,t] p),j9 (zbT [s,t] p)])/\Ext W w') from by
  have f6:=(cY W).alloc (.cells #[s.al,s.st,fF A n c,t.al,t.st,fF C k c2] 38);obtain⟨l1,l2,cF⟩:=sl_pair (eB W 38 #[s.al,s.st,fF A n c,t.al,t.st,fF C k c2]) (hs.ext (hW.trans f6)) (ht.ext (hW.trans f6));exact (zbU cF (hp.ext (hW.trans f6)) (hT.ext (hW.trans f6))).mono (fun e w' h=>⟨h.1,f6.trans h.2⟩))
 have cH:=za (zgJ hif);have Htab:=za hT;clear hs hp ht hT
 go_enter Tryz.func72,Tryz.ntmps72
 go_upto_region 1 with fail
 obtain⟨w1,U0⟩:∃ x,Hid ((((w.alloc (.cells #[s.al,s.st,fF A n c] 38)).alloc (.cells #[t.al,t.st,fF C k c2] 38)).alloc (.cells #[p.al,fF B m d,fF B' m' d'] 27)).alloc (.cells #[(0:Int),(0:Int),(),(),kC ⟨#[]⟩,(0:Int)] 42)=x):=⟨_,za rfl⟩;obtain⟨b4,b5,b6⟩:=zL (((cY _).alloc (.cells #[(0:Int),(0:Int),(),(),kC ⟨#[]⟩,(0:Int)] 42)).trans (eX U0.out));have b8:=dZ U0.out;simp only [World.size_alloc] at b8;have aN:Ext w w1:=(((((cY _).alloc _).alloc _).alloc _).alloc _).trans (eX U0.out);rw [U0.out] at *;have k4:=b4.cell;have k5:=b5.cell;have k6:=b6.cell;go_upto_region 4 with (go_at_call 39;refine (ci.out _ aN).mono ?_;rintro e w2 ⟨A1,n1,c1,B1,m1,d1,bl,bW,d1',rfl,cA,aW⟩)
 have aR:=cA.ext ((cY w2).alloc (.cells #[s.al,s.st,fF A1 n1 c1,p.al,fF B1 m1 d1,fF bl bW d1',L] 70));have M:=aW.trans ((cY w2).alloc (.cells #[s.al,s.st,fF A1 n1 c1,p.al,fF B1 m1 d1,fF bl bW d1',L] 70));generalize U0:w2.alloc _=w3 at *;have b9:=dZ U0;clear U0;have k9:=b9.cell;obtain⟨dA,dx,cE,cD,cB⟩:=aR.at_;have hL:=aR.lt;have bP:=za (ziF (c:=c1) (d:=d1) (d':=d1') (cY w3) cE cD vs vp hL cB (Htab.out.ext (aN.trans M)));have bQ:=store_func (122);go_upto_region 5 with (go_at_call 49;refine bP.out.mono ?_;rintro e w4 ⟨F,S0,rfl,cC,cy,cx,cw,bA,dv,hJ,aX⟩)
 have S:=za (show zhy w3.heap.size L (zu s p L) (SafJ F) 122 (.pointer (fV ⟨F.G,0,fW⟩)) by
  have:=sf_orc cC;rwa [cy,cx,cw,bA] at this)
 have ag:=za (fun (q:Nat) (hq:w4.heap.size<=q)=>zbo.fresh S.out.ok hJ hq);generalize U0:w4.alloc _=w5 at *;obtain⟨ay,a1⟩:=gP U0;have bJ:=S.out.ok.keep hJ ay (fun _ _ h=>h.elim);have O:=aX.trans ay;clear U0;have ae:=a1.cell;have bN:=za (or_newTable S.out bJ oM O.size hL);have dd:=aX.size;go_upto_region 99 with fail
 refine bN.out.mono ?_;rintro e w6 ⟨S6,aJ,U⟩;rcases U with ⟨bM,rfl⟩|⟨bg,a2,R0,C0,bw,bt,bO,rfl,bD⟩
 ·obtain⟨r,hr⟩:=zhV L (zu s p L);rw [hr] at bM;cases bM
 obtain⟨w7,U0⟩:∃ x,Hid (w6.alloc (.cells #[fF R0 bg.length bw,fF C0 a2.length bt] 90)=x):=⟨_,za rfl⟩;have i:=dZ U0.out;have aY:Ext w6 w7:=((cY _).alloc _).trans (eX U0.out);obtain⟨a4,l⟩:∃ g,Hid (g=w6.heap.size):=⟨_,za rfl⟩;have bC:=za (fun (q:Nat) (hq:w6.heap.size<=q)=>zbo.fresh S.out.ok aJ.j hq);go_upto_region 6 with fail
 rw [<- l.out] at i ⊢;rw [U0.out] at *;have u:=za (show ∀ q:Nat,S0 q->w3.heap.size<=q from fun q h=>by have:=S.out.ok.low bJ q h;omega);have bK:=za ((aJ.ext S.out.ok aY).more S.out.ok (show 0+21840<=21840+30000*0 by omega));obtain⟨o0,aL⟩:∃ o0:Option (List ByteArray × List ByteArray),Hid ((zas L (zu s p L) [⟨#[]⟩] 11 [⟨#[]⟩]).map (fun r=>(r,[(⟨#[]⟩:ByteArray)]))=o0):=⟨_,za rfl⟩;have aw:o0=fV (bg,a2):=aL.out.symm.trans bO;have aS:=za (show LnOk L (zu s p L) 0 o0 by rw [<- aL.out];exact LnOk.start L (zu s p L));have aT:=za (show runT s t p L (12 - 0) 0 o0=vpT s t p by rw [cH.out,<- aL.out]);have aU:o0.isSome=jV:=by rw [aw];rfl
 have aV:=za (show TabV3 w7 S6 w5.heap.size a4 o0 from ⟨bC.out a4 (oH l.out),.inr ⟨bg,a2,R0,C0,bw,bt,aw,i,bD.ext aY⟩⟩);have db:=aW.size;have dc:=M.size;have de:=ay.size;have df:=aJ.size;have c4:=b4.lt;have c5:=b8.lt;have c6:=b9.lt;have B4:=za ((b4.ext M).ext O);have B5:=za ((b5.ext M).ext O);have B6:=za ((b6.ext M).ext O);have B8:=za ((b8.ext M).ext O);have B9:=za (b9.ext O);have aF:=za a1;have dw:w.heap.size<=w5.heap.size:=(aN.trans (M.trans O)).size;have aA:=za (aN.trans (M.trans O));clear k4 k5 k6 k9 ae b4 b5 b6 b8 b9 a1 bD i aJ bN bP bQ bO;go_wp2_with fail
 go_loopw [10,14,15,16,17,18,19,20] (fun v10 v14 _ _ _ _ _ _ wr=>∃ (r:Nat) (o:Option (List ByteArray × List ByteArray)) (S1:Nat->Prop),v10=.bool o.isSome/\v14=.int iX ((r:Int)+1)/\r<=12/\Hid (Kp (SafJ F) (21840+30000*r) S0 w5 wr S1)/\Hid (TabV3 wr S1 w5.heap.size a4 o)/\Hid (LnOk L (zu s p L) r o)/\Hid (runT s t p L (12 - r) r o=vpT s t p)) (fun _ v14 _ _ _ _ _ _ _=>14 - (intOf v14).toNat)
 case atStart=>exact⟨0,o0,S6,by rw [aU],rfl,dH _,bK,aV,aS,aT⟩
 case round =>
  clear bK aV aS aT aU aw aL;obtain⟨r,o,S1,rfl,rfl,hr,am,bR,aK,a9⟩:=hrel;have T:=am.out.blk B8.out (fun h=>by have:=u.out _ h;omega);cases o with
  |none =>
   have hv:=za (show vpT s t p=⟨2,noA,⟨#[]⟩,r⟩ by
    rw [<- a9.out];cases h12:12 - r with
    |zero=>rfl
    |succ f=>rfl)
   have k8:=T.1.cell;have f8:=T.1.frozen;go_wp2_with fail
   have cI:Ext w wr:=aA.out.frm am.out.frm (fun q hq hs=>by have:=u.out q hs;omega);have zku:=vd_fin cI T.1 oM (.int iX 2) (.int iX 0) (fF fW 0 0) (fF fW 0 0) (.string ⟨#[]⟩) (.int iX r);have cf:=zku.1.cell;have Hx:=za zku.2.2;clear zku k8 f8 T;generalize ((((((wr.setCell ⟨w.heap.size+1+1+1,0,fW⟩ (2:Int)).setCell ⟨w.heap.size+1+1+1,1,fW⟩ (0:Int)).setCell ⟨w.heap.size+1+1+1,2,fW⟩ ()).setCell ⟨w.heap.size+1+1+1,3,fW⟩ ()).setCell ⟨w.heap.size+1+1+1,4,fW⟩ (.string ⟨#[]⟩)).setCell ⟨w.heap.size+1+1+1,5,fW⟩ r)=X at *;exact bodyPost_ret (v:=j4 #[(2:Int),(0:Int),(),(),kC ⟨#[]⟩,r]) (by simp [results,Tryz.results72,go_sem,cf]) rfl (by
    rw [hv.out];exact⟨fW,0,0,fW,0,0,rfl,noA_own _ _,Hx.out⟩)
  |some tab =>
   obtain⟨rs,cs⟩:=tab;obtain⟨bH,cz⟩:=bR.out;rcases cz with ⟨h0,_⟩|⟨dB,dt,R,C1,cr,cc,h0,a6,bc⟩
   ·cases h0
   obtain⟨rfl,rfl⟩:=Prod.mk.inj (kA h0);obtain⟨hI,aH⟩:=aK.out.tab rs cs rfl;have c7:w5.heap.size<=wr.heap.size:=am.out.size;have a5:=za (zgP S.out am.out.j oM bc hI aH oM hL);have bd:=za (zct hI aH hL);obtain⟨a,bE⟩:∃ a,Hid (zcV L (zu s p L) rs cs=a):=⟨_,za rfl⟩;rw [bE.out] at a5 bd;have k8:=T.1.cell;have f8:=T.1.frozen;have ar:=am.out.blk aF.out (ag.out _ (dE _));have ae:=ar.1.cell;have aD:=a6.cell;have bn:=za bc;have a0:=za a6;clear bR bc a6 h0;go_upto_region 11 with (go_at_call 51;refine a5.out.mono ?_;rintro e w8 ⟨S2,AA,aE,an,ac,ap,ai,rfl,bz,ak⟩)
   have a7:=am.out.trans ak;have bI:=za (ak.out a0.out.lt bH);have c3:=za (fun (q:Nat) (hq:w8.heap.size<=q)=>zbo.fresh S.out.ok a7.j hq);have c8:=ak.size;generalize U0:w8.alloc _=w9 at *;obtain⟨Q,au⟩:=gP U0;have ad:=za (a7.ext S.out.ok Q);have aq:=za (bz.ext Q);have aP:=za ((ak.blk a0.out bH).1.ext Q);have aQ:=za ((bn.out.kp ak).ext Q);clear U0;have Z:=za (show Ext w w9 from ad.out.toExt aA.out (fun q hs=>by have:=u.out q hs;omega));have ck:=za (zfD (c:=c) (d1:=ac) (d1':=ai) (d2:=d) (d2':=d') (HS.out _ Z.out) aq.out.own_.reads (HP.out _ Z.out) (Htab.out.ext Z.out));have ce:=za (fun W (hW:Ext w9 W)=>zfC (c2:=c2) (k1:=an) (d1:=ac) (k1':=ap) (d1':=ai) (cj.out _ (Z.out.trans hW)) (aq.out.own_.reads.ext hW) (Htab.out.ext (Z.out.trans hW)));have k4:=(ad.out.blk B4.out (fun h=>by have:=u.out _ h;omega)).1.cell;have k6:=(ad.out.blk B6.out (fun h=>by have:=u.out _ h;omega)).1.cell;have dz:=au.cell;have bm:=za (ad.out.blk B9.out (fun h=>by have:=u.out _ h;omega)).1;clear a5 bz ak a7 bn a0 k8 f8 T ae aD ar;go_upto_region 14 with (go_at_call 52;refine ck.out.mono (mQ fun cM Y=>?_))
   have da:r<12:=by have:=aK.out.more rs cs rfl;have:=hI.r12;omega
   have ah:=za (show (if (zaN s p t L a).2=0 then (⟨0,a,⟨#[]⟩,r+1⟩:Vd) else if (zaN s p t L a).2=1 then ⟨1,noA,zaq [s,t] p,r+1⟩ else runT s t p L (11 - r) (r+1) (zbd L (zu s p L) rs cs (zaN s p t L a).1))=vpT s t p by
    rw [<- a9.out,show 12 - r=(11 - r)+1 by omega,runT,bE.out])
   clear a9;have bf:=za (zet vs bd.out vp);have be:=za (zcu (ss:=[t]) (p:=a) (by unfold zF;simp [vt]) bd.out);have bG:=ad.out.blk B8.out (fun h=>by have:=u.out _ h;omega);have cW:=za (Z.out.trans Y);cases hub:zcK s a p with
   |false =>
    have k5:=((ad.out.blk B5.out (fun h=>by have:=u.out _ h;omega)).1.ext Y).cell;have bs:=(au.ext Y).cell;go_upto_region 17 with (go_at_call 161;refine (ce.out _ Y).mono (mQ fun bX bT=>?_))
    have I:=Y.trans bT;have du:=(au.ext I).cell;cases hbb:zbT [t] a with
    |false =>
     have hv:=za (show vpT s t p=⟨0,a,⟨#[]⟩,r+1⟩ by
      rw [<- ah.out];have hj:zaN s p t L a=(⟨#[]⟩,0):=by unfold zaN;rw [if_neg (by simp [hub]),if_neg (by simp [hbb])]
      rw [hj,if_pos rfl])
     have E:=bG.1.ext I;have k8:=E.cell;have f8:=E.frozen;clear bs;go_wp2_with fail
     have zku:=vd_fin (Z.out.trans I) E oM (.int iX 0) (.int iX a.al) (fF AA an ac) (fF aE ap ai) (.string ⟨#[]⟩) (.int iX ((r:Int)+1));have cf:=zku.1.cell;have Hx:=za zku.2.2;have Ho:=za (((aq.out.own_.ext I).keep zku.2.1 (fun b hb e=>by have e':b=w.heap.size+1+1+1:=e;omega)).less (show w.heap.size<=wr.heap.size by omega));clear zku k8 f8 E;generalize ((((((bX.setCell ⟨w.heap.size+1+1+1,0,fW⟩ (0:Int)).setCell ⟨w.heap.size+1+1+1,1,fW⟩ a.al).setCell ⟨w.heap.size+1+1+1,2,fW⟩ (fF AA an ac)).setCell ⟨w.heap.size+1+1+1,3,fW⟩ (fF aE ap ai)).setCell ⟨w.heap.size+1+1+1,4,fW⟩ (.string ⟨#[]⟩)).setCell ⟨w.heap.size+1+1+1,5,fW⟩ (.int iX ((r:Int)+1)))=X at *;exact bodyPost_ret (v:=j4 #[(0:Int),a.al,fF AA an ac,fF aE ap ai,kC ⟨#[]⟩,((r:Int)+1:Int)]) (by simp [results,Tryz.results72,go_sem,cf]) rfl (by
      rw [hv.out];exact⟨AA,an,ac,aE,ap,ai,sM,Ho.out,Hx.out⟩)
    |true =>
     have aj:=za (show zaN s p t L a=(zbB (zaq [t] a) L,if zu s p L (zbB (zaq [t] a) L)=jV then -1 else 1) by unfold zaN;rw [if_neg (by simp [hub]),if_pos hbb]);have aB:=zda be.out.1 L;have aC:(zbB (zaq [t] a) L).size<=4000:=by have:=zeV (zaq [t] a) L;have:=be.out.2;simp only [fO,List.length_nil] at this;omega
     have ax:=za (zgd (s:=zaq [t] a) (a:=L) (w:=bX) be.out.1 oM);have k9:=(bm.out.ext I).cell;obtain⟨z,hz⟩:∃ z,Hid (zbB (zaq [t] a) L=z):=⟨_,za rfl⟩;rw [hz.out] at aB aC aj ax;have aG:=za aB;clear bs;go_upto_region 20 with (go_at_call 53;refine ax.out.mono (mQ fun bY af=>?_))
     have y:=I.trans af;have V:=za (ad.out.ext S.out.ok y);have bF:=za (S.out.ask _ bY S2 z V.out.j oM aG.out oM);have ae:=(V.out.blk aF.out (ag.out _ (dE _))).1.cell;clear k9;go_upto_region 99 with fail
     refine bF.out.mono ?_;rintro e aO ⟨S4,rfl,aI⟩;have J:=za (V.out.trans aI);have az:=za (show Ext w aO from J.out.toExt aA.out (fun q hs=>by have:=u.out q hs;omega));have i:=aI.blk (aP.out.ext y) bI.out;have cl:=za ((aQ.out.ext y).kp aI);have cG:=aI.size;cases hsf:zu s p L z with
     |false =>
      have hv:=za (show vpT s t p=⟨1,noA,zaq [s,t] p,r+1⟩ by
       rw [<- ah.out,aj.out,if_neg (show ¬ zu s p L z=jV by rw [hsf];decide),if_neg (show ¬ ((1:Int)=0) by decide),if_pos (show (1:Int)=1 from rfl)])
      have HP:=za (ch.out aO az.out);have k4:=(J.out.blk B4.out (fun h=>by have:=u.out _ h;omega)).1.cell;have k5:=(J.out.blk B5.out (fun h=>by have:=u.out _ h;omega)).1.cell;have br:=(J.out.blk B6.out (fun h=>by have:=u.out _ h;omega)).1;have k6:∀ (v:Array j6) (q:Nat),(aO.alloc (.cells v 38)).cell? ⟨w.heap.size+1+1,q,fW⟩=_:=fun v q=>(br.ext ((cY aO).alloc (.cells v 38))).cell q;have cp:=(J.out.blk B8.out (fun h=>by have:=u.out _ h;omega)).1;clear ae;go_upto_region 99 with fail
      refine HP.out.mono (mQ fun wF bU=>?_);have E:=cp.ext bU;have k8:=E.cell;have f8:=E.frozen;clear k4 k5 k6 br;go_wp2_with fail
      have zku:=vd_fin (az.out.trans bU) E oM (.int iX 1) (.int iX 0) (fF fW 0 0) (fF fW 0 0) (.string (zaq [s,t] p)) (.int iX ((r:Int)+1));have cf:=zku.1.cell;have Hx:=za zku.2.2;clear zku k8 f8 E;generalize (((((wF.setCell ⟨w.heap.size+1+1+1,0,fW⟩ (1:Int)).setCell ⟨w.heap.size+1+1+1,1,fW⟩ (0:Int)).setCell ⟨w.heap.size+1+1+1,2,fW⟩ ()).setCell ⟨w.heap.size+1+1+1,3,fW⟩ ()).setCell ⟨w.heap.size+1+1+1,4,fW⟩ (.string (zaq [s,t] p))).setCell ⟨w.heap.size+1+1+1,5,fW⟩ (.int iX ((r:Int)+1))=X at *;exact bodyPost_ret (v:=j4 #[(1:Int),(0:Int),(),(),kC (zaq [s,t] p),((r:Int)+1:Int)]) (by simp [results,Tryz.results72,go_sem,cf]) rfl (by
       rw [hv.out];exact⟨fW,0,0,fW,0,0,by simp [noA],noA_own _ _,Hx.out⟩)
     |true =>
      have cK:=(J.out.blk aF.out (ag.out _ (dE _))).1.cell;have aD:=i.1.cell;have a8:=za (zgQ (x:=z) S.out J.out.j oM cl.out hI aH (by have:=y.size;have:=Q.size;omega) hL aG.out aC);clear ae;go_upto_region 99 with fail
      refine a8.out.mono ?_;rintro e cN ⟨S3,av,U⟩;have ab:=za ((J.out.trans av).more S.out.ok (show 21840+30000*r+1692+1+27840<=21840+30000*(r+1) by omega));have aa:=za (show runT s t p L (12 - (r+1)) (r+1) (zbd L (zu s p L) rs cs z)=vpT s t p by
       rw [<- ah.out,aj.out,if_pos hsf,if_neg (show ¬ ((-1:Int)=0) by decide),if_neg (show ¬ ((-1:Int)=1) by decide),show 12 - (r+1)=11 - r by omega])
      have H:=za (aK.out.ar z);have D:=av.blk i.1 i.2;have cL:=D.1.cell;have cv:=D.1.frozen;have bL:=i.1.lt;clear aD cK;rcases U with ⟨hn,rfl⟩|⟨bh,a3,R2,C2,cu,ct,hn,rfl,ba⟩
      ·rw [hn] at H aa;go_wp2_with fail
       go_roundw
       case rel=>exact⟨r+1,fW,S3,rfl,gM,oM,za ((ab.out.cell S.out.ok (oH l.out) (oH l.out) D.2 0 _).cell S.out.ok (oH l.out) (oH l.out) D.2 1 _),za ⟨D.2,.inl ⟨rfl,_,_,(D.1.ae 0 _).ae 1 _⟩⟩,H,aa⟩
       case measure=>exact uM
      ·rw [hn] at H aa;have bb:=za (zjo (base:=w5.heap.size) D.1 D.2 ba (by have:=y.size;have:=Q.size;omega) bL);go_wp2_with fail
       go_roundw
       case rel=>exact⟨r+1,fV (bh,a3),S3,rfl,gM,oM,za ((ab.out.cell S.out.ok (oH l.out) (oH l.out) D.2 0 _).cell S.out.ok (oH l.out) (oH l.out) D.2 1 _),bb,H,aa⟩
       case measure=>exact uM
   |true =>
    have aj:=za (show zaN s p t L a=(zbB (zbc s a p) L,-1) by unfold zaN;rw [if_pos hub]);have aB:=zda bf.out.1 L;have aC:(zbB (zbc s a p) L).size<=4000:=by have:=zeV (zbc s a p) L;have:=bf.out.2;omega
    have ax:=za (zgd (s:=zbc s a p) (a:=L) (w:=cM) bf.out.1 oM);have k9:=(bm.out.ext Y).cell;obtain⟨z,hz⟩:∃ z,Hid (zbB (zbc s a p) L=z):=⟨_,za rfl⟩;rw [hz.out] at aB aC aj ax;have aG:=za aB;go_upto_region 20 with (go_at_call 53;refine ax.out.mono (mQ fun bY af=>?_))
    have y:=Y.trans af;have V:=za (ad.out.ext S.out.ok y);have a8:=za (zgQ (x:=z) S.out V.out.j oM (aQ.out.ext y) hI aH (by have:=y.size;have:=Q.size;omega) hL aG.out aC);have ae:=(V.out.blk aF.out (ag.out _ (dE _))).1.cell;have ao:=za (aP.out.ext y);have aD:=ao.out.cell;go_upto_region 99 with fail
    refine a8.out.mono ?_;rintro e cN ⟨S3,av,U⟩;have ab:=za ((V.out.trans av).more S.out.ok (show 21840+30000*r+1692+27840<=21840+30000*(r+1) by omega));have aa:=za (show runT s t p L (12 - (r+1)) (r+1) (zbd L (zu s p L) rs cs z)=vpT s t p by
     rw [<- ah.out,aj.out,if_neg (show ¬ ((-1:Int)=0) by decide),if_neg (show ¬ ((-1:Int)=1) by decide),show 12 - (r+1)=11 - r by omega])
    have H:=za (aK.out.ar z);have i:=av.blk ao.out bI.out;have cL:=i.1.cell;have cv:=i.1.frozen;clear aD ae k9;rcases U with ⟨hn,rfl⟩|⟨bh,a3,R2,C2,cu,ct,hn,rfl,ba⟩
    ·rw [hn] at H aa;go_wp2_with fail
     go_roundw
     case rel=>exact⟨r+1,fW,S3,rfl,gM,oM,za ((ab.out.cell S.out.ok (oH l.out) (oH l.out) i.2 0 _).cell S.out.ok (oH l.out) (oH l.out) i.2 1 _),za ⟨i.2,.inl ⟨rfl,_,_,(i.1.ae 0 _).ae 1 _⟩⟩,H,aa⟩
     case measure=>exact uM
    ·rw [hn] at H aa;have bb:=za (zjo (base:=w5.heap.size) i.1 i.2 ba (by have:=y.size;have:=Q.size;omega) (oH ao.out.lt));go_wp2_with fail
     go_roundw
     case rel=>exact⟨r+1,fV (bh,a3),S3,rfl,gM,oM,za ((ab.out.cell S.out.ok (oH l.out) (oH l.out) i.2 0 _).cell S.out.ok (oH l.out) (oH l.out) i.2 1 _),bb,H,aa⟩
     case measure=>exact uM
end
theorem vpT_cert (s t:Sys) (p:Aut):((vpT s t p).code=0->zP jV (vpT s t p).asm (vpT s t p).tr=jV)/\((vpT s t p).code=1->zP j3 (vpT s t p).asm (vpT s t p).tr=jV):=by
 rcases zcw s t p with h|⟨L,h⟩
 ·rw [zgI h];exact⟨(fun h=>by cases h),(fun h=>by cases h)⟩
 ·have a:=vpT_ok h;obtain⟨b,c,d⟩:=zbk (s:=s) (p:=p) (t:=t) oM;refine⟨fun h0=>?_,fun h1=>?_⟩
  ·rw [a.quiet oM];unfold zP;rw [if_pos rfl,(a.holds h0).1];rw [ByteArray.toList,ByteArray.toList.loop,if_neg dM];rfl
  ·rw [a.none_ oM];unfold zP;rw [if_neg dM,vpT_word b d c];rfl
section
variable {w:j2} {lo hi n c lo1 hi1 m d m' d' lo2 hi2 k c2:Nat} {A B B' C:Option Addr} {s t:Sys} {p:Aut}
theorem impl_TaskOf0 (hs:zY w lo hi A n s)(hp:zK w lo1 hi1 B m B' m' p)(ht:zY w lo2 hi2 C k t)(hif:iface s p t = -1) :
  j8 j5 39 #[j4 #[s.al,s.st,fF A n c],j4 #[p.al,fF B m d,fF B' m' d'],j4 #[t.al,t.st,fF C k c2]] w
   fun e w'=>e=j7 (.tuple #[j4 #[(0:Int),(0:Int),(),(0:Int),(),(),(0:Int)],j9 j3])/\Ext w w':=by
 have b:=za (fun W (hW:Ext w W)=>zev (c:=c) (d1:=d) (d1':=d') (c2:=c2) (hs.ext hW) (hp.ext hW) (ht.ext hW));rw [hif] at b;clear hs hp ht hif;obtain⟨o,U0⟩:∃ x,Hid ((((w.alloc (.cells #[s.al,s.st,fF A n c] 38)).alloc (.cells #[p.al,fF B m d,fF B' m' d'] 27)).alloc (.cells #[t.al,t.st,fF C k c2] 38)).alloc (.cells #[(0:Int),(0:Int),(),(0:Int),(),(),(0:Int)] 70)=x):=⟨_,za rfl⟩;have g:Ext w o:=(((((cY _).alloc _).alloc _).alloc _).alloc _).trans (eX U0.out);obtain⟨q,r,u⟩:=zL (((cY _).alloc _).trans (eX U0.out));have l:=dZ U0.out;simp only [World.size_alloc] at l
 go_enter Tryz.func39,Tryz.ntmps39
 go_upto_region 1 with fail
 rw [U0.out] at *;have G:=q.cells;have F:=r.cells;have H:=u.cells;have E:=cY o;go_upto_region 99 with fail
 refine (b.out _ g).mono (mQ fun h a=>?_);have i:=l.ext a;have J:=i.cell;have I:=i.frozen;have j:=g.trans a;have D:Frm (fun k=>k=w.heap.size+1+1+1) h (((((((h.setCell ⟨w.heap.size+1+1+1,0,fW⟩ (0:Int)).setCell ⟨w.heap.size+1+1+1,1,fW⟩ (0:Int)).setCell ⟨w.heap.size+1+1+1,2,fW⟩ ()).setCell ⟨w.heap.size+1+1+1,3,fW⟩ (0:Int)).setCell ⟨w.heap.size+1+1+1,4,fW⟩ ()).setCell ⟨w.heap.size+1+1+1,5,fW⟩ ()).setCell ⟨w.heap.size+1+1+1,6,fW⟩ (0:Int)):=
  ((((((dG h _ 0 _).trans (dG _ _ 1 _)).trans (dG _ _ 2 _)).trans (dG _ _ 3 _)).trans (dG _ _ 4 _)).trans (dG _ _ 5 _)).trans (dG _ _ 6 _)
 have y:Blk (((((((h.setCell ⟨w.heap.size+1+1+1,0,fW⟩ (0:Int)).setCell ⟨w.heap.size+1+1+1,1,fW⟩ (0:Int)).setCell ⟨w.heap.size+1+1+1,2,fW⟩ ()).setCell ⟨w.heap.size+1+1+1,3,fW⟩ (0:Int)).setCell ⟨w.heap.size+1+1+1,4,fW⟩ ()).setCell ⟨w.heap.size+1+1+1,5,fW⟩ ()).setCell ⟨w.heap.size+1+1+1,6,fW⟩ (0:Int)) (w.heap.size+1+1+1) 70 #[.int iX 0,.int iX 0,fF fW 0 0,.int iX 0,fF fW 0 0,fF fW 0 0,.int iX 0]:=by
  simpa using ((((((i.ae 0 (.int iX 0)).ae 1 (.int iX 0)).ae 2 (fF fW 0 0)).ae 3 (.int iX 0)).ae 4 (fF fW 0 0)).ae 5 (fF fW 0 0)).ae 6 (.int iX 0)
 have f:=za (j.frm D (fun k hk e=>oM));go_wp2_with fail
 generalize (((((((h.setCell ⟨w.heap.size+1+1+1,0,fW⟩ (0:Int)).setCell ⟨w.heap.size+1+1+1,1,fW⟩ (0:Int)).setCell ⟨w.heap.size+1+1+1,2,fW⟩ ()).setCell ⟨w.heap.size+1+1+1,3,fW⟩ (0:Int)).setCell ⟨w.heap.size+1+1+1,4,fW⟩ ()).setCell ⟨w.heap.size+1+1+1,5,fW⟩ ()).setCell ⟨w.heap.size+1+1+1,6,fW⟩ (0:Int))=W at *;have z:=y.cell;exact bodyPost_ret (v:=.tuple #[j4 #[(0:Int),(0:Int),(),(0:Int),(),(),(0:Int)],j9 j3]) (by simp [results,Tryz.results39,go_sem,z]) rfl ⟨rfl,f.out⟩
theorem zha (hs:zY w lo hi A n s)(hp:zK w lo1 hi1 B m B' m' p)(ht:zY w lo2 hi2 C k t)(hif:iface s p t = -1) :
  j8 j5 72 #[j4 #[s.al,s.st,fF A n c],j4 #[t.al,t.st,fF C k c2],j4 #[p.al,fF B m d,fF B' m' d'],.nilFunc] w (zhz w ⟨3,noA,⟨#[]⟩,0⟩):=by
 have i:=za (fun W (hW:Ext w W)=>impl_TaskOf0 (c:=c) (d:=d) (d':=d') (c2:=c2) (hs.ext hW) (hp.ext hW) (ht.ext hW) hif);clear hs hp ht hif;obtain⟨y,U0⟩:∃ x,Hid ((((w.alloc (.cells #[s.al,s.st,fF A n c] 38)).alloc (.cells #[t.al,t.st,fF C k c2] 38)).alloc (.cells #[p.al,fF B m d,fF B' m' d'] 27)).alloc (.cells #[(0:Int),(0:Int),(),(),kC ⟨#[]⟩,(0:Int)] 42)=x):=⟨_,za rfl⟩;have b:Ext w y:=(((((cY _).alloc _).alloc _).alloc _).alloc _).trans (eX U0.out);obtain⟨l,o,q⟩:=zL (((cY _).alloc _).trans (eX U0.out));have h:=dZ U0.out;simp only [World.size_alloc] at h
 go_enter Tryz.func72,Tryz.ntmps72
 go_upto_region 1 with fail
 rw [U0.out] at *;have u:=l.cell;have k2:=o.cell;have k3:=q.cell;go_upto_region 99 with fail
 refine (i.out _ b).mono (mQ fun z g=>?_);have f:=g.alloc (.cells #[(0:Int),(0:Int),(),(0:Int),(),(),(0:Int)] 70);have a:=h.ext f;have k8:=a.cell;have f8:=a.frozen;clear u k2 k3;have zku:=vd_fin (b.trans f) a oM (.int iX 3) (.int iX 0) (fF fW 0 0) (fF fW 0 0) (.string ⟨#[]⟩) (.int iX 0);have r:=zku.1.cell;have j:=za zku.2.2;clear zku a;go_wp2_with fail
 generalize ((((((z.alloc (.cells #[(0:Int),(0:Int),(),(0:Int),(),(),(0:Int)] 70)).setCell ⟨w.heap.size+1+1+1,0,fW⟩ (3:Int)).setCell ⟨w.heap.size+1+1+1,1,fW⟩ (0:Int)).setCell ⟨w.heap.size+1+1+1,2,fW⟩ ()).setCell ⟨w.heap.size+1+1+1,3,fW⟩ ()).setCell ⟨w.heap.size+1+1+1,4,fW⟩ (.string ⟨#[]⟩)).setCell ⟨w.heap.size+1+1+1,5,fW⟩ (0:Int)=X at *;exact bodyPost_ret (v:=j4 #[(3:Int),(0:Int),(),(),kC ⟨#[]⟩,(0:Int)]) (by simp [results,Tryz.results72,go_sem,r]) rfl ⟨fW,0,0,fW,0,0,rfl,noA_own _ _,j.out⟩
theorem zdt {v:Vd} (HR:Hid (∀ W,Ext w W->j8 j5 72 #[j4 #[s.al,s.st,fF A n c],j4 #[t.al,t.st,fF C k c2],j4 #[p.al,fF B m d,fF B' m' d'],.nilFunc] W (zhz W v))) :
  j8 j5 20 #[j4 #[s.al,s.st,fF A n c],j4 #[t.al,t.st,fF C k c2],j4 #[p.al,fF B m d,fF B' m' d']] w (zhz w v):=by
 obtain⟨q,U0⟩:∃ x,Hid ((((w.alloc (.cells #[s.al,s.st,fF A n c] 38)).alloc (.cells #[t.al,t.st,fF C k c2] 38)).alloc (.cells #[p.al,fF B m d,fF B' m' d'] 27)).alloc (.cells #[(0:Int),(0:Int),(),(),kC ⟨#[]⟩,(0:Int)] 42)=x):=⟨_,za rfl⟩;have b:Ext w q:=(((((cY _).alloc _).alloc _).alloc _).alloc _).trans (eX U0.out);obtain⟨y,z,D⟩:=zL (((cY _).alloc _).trans (eX U0.out));have l:=dZ U0.out;simp only [World.size_alloc] at l
 go_enter Tryz.func20,Tryz.ntmps20
 go_wp2_with fail
 rw [U0.out] at *;refine (HR.out q b).mono ?_;rintro e E ⟨g,j,i,A2,n2,k2,rfl,o,f⟩;have a:=l.ext f;have k8:=a.cell;have f8:=a.frozen;have zku:=vd_fin (b.trans f) a oM (.int iX v.code) (.int iX v.asm.al) (fF g j i) (fF A2 n2 k2) (.string v.tr) (.int iX v.ro);have h:=za ((o.aw a zku.2.1 dM).less b.size);have u:=zku.1.cell;have r:=za zku.2.2;clear zku a o;go_wp2_with fail
 exact bodyPost_ret (v:=j4 #[v.code,v.asm.al,fF g j i,fF A2 n2 k2,v.tr,v.ro]) (by simp [results,Tryz.results20,go_sem,u]) rfl ⟨g,j,i,A2,n2,k2,rfl,h.out,r.out⟩
theorem zhL (hs:zY w lo hi A n s)(hp:zK w lo1 hi1 B m B' m' p)(ht:zY w lo2 hi2 C k t)(hT:Tab w) :
  j8 j5 20 #[j4 #[s.al,s.st,fF A n c],j4 #[t.al,t.st,fF C k c2],j4 #[p.al,fF B m d,fF B' m' d']] w (zhz w (vpT s t p)):=by
 rcases zcw s t p with h|⟨L,h⟩
 ·rw [zgI h];exact zdt (za (fun W hW=>zha (hs.ext hW) (hp.ext hW) (ht.ext hW) h))
 ·have a:=(zbk (show 0<=iface s p t by omega)).1;exact zdt (za (fun W hW=>zhN (hs.ext hW) (hp.ext hW) (ht.ext hW) h (by have:=hs.1;have:=valid_len a;omega) (hT.ext hW)))
theorem yX15a3 {P:Prop}(h:P:=by
 simpa using ((((b62.ae 0 (.bool (hdX v.code v.asm v.tr))).ae 1 (.int .i64 (ziy v.code v.asm v.tr).al)).ae 2 (.slice A2 n2 k2)).ae 3 (.slice A3 n3 k3)).ae 4 (.string (ziz v.code v.asm v.tr))
 ):P:=h
theorem zfi {v:Vd} (HR:Hid (∀ W,Ext w W->j8 j5 42 #[j4 #[s.al,s.st,fF A n c],j4 #[t.al,t.st,fF C k c2],j4 #[p.al,fF B m d,fF B' m' d']] W (zhz W v)))(hsz:Hid (v.asm.size<=1048576/\v.tr.size<=9223372036854775807))(hcv:Hid ((v.code=0->zP jV v.asm v.tr=jV)/\(v.code=1->zP j3 v.asm v.tr=jV))) :
  j8 j5 45 #[j4 #[s.al,s.st,fF A n c],j4 #[t.al,t.st,fF C k c2],j4 #[p.al,fF B m d,fF B' m' d']] w
   (zcr w (hdX v.code v.asm v.tr) (ziy v.code v.asm v.tr) (ziz v.code v.asm v.tr) (okC v.code v.asm v.tr)):=by
 have f:Ext w ((((w.alloc (.cells #[s.al,s.st,fF A n c] 38)).alloc (.cells #[t.al,t.st,fF C k c2] 38)).alloc (.cells #[p.al,fF B m d,fF B' m' d'] 27)).alloc (.cells #[j9 j3,(0:Int),(),(),kC ⟨#[]⟩] 60)):=((((cY _).alloc _).alloc _).alloc _).alloc _;obtain⟨D,E,F⟩:=zL ((cY _).alloc _:Ext (((w.alloc (.cells #[s.al,s.st,fF A n c] 38)).alloc (.cells #[t.al,t.st,fF C k c2] 38)).alloc (.cells #[p.al,fF B m d,fF B' m' d'] 27)) ((((w.alloc (.cells #[s.al,s.st,fF A n c] 38)).alloc (.cells #[t.al,t.st,fF C k c2] 38)).alloc (.cells #[p.al,fF B m d,fF B' m' d'] 27)).alloc (.cells #[j9 j3,(0:Int),(),(),kC ⟨#[]⟩] 60)));have h:=eB (((w.alloc (.cells #[s.al,s.st,fF A n c] 38)).alloc (.cells #[t.al,t.st,fF C k c2] 38)).alloc (.cells #[p.al,fF B m d,fF B' m' d'] 27)) 60 #[j9 j3,(0:Int),(),(),kC ⟨#[]⟩];simp only [World.size_alloc] at h
 go_enter Tryz.func45,Tryz.ntmps45
 go_upto_region 1 with fail
 generalize ((((w.alloc _).alloc _).alloc _).alloc _)=x at *;have G:=D.cell;have l:=E.cell;have H:=F.cell;have Q:=fun W (hW:Ext x W)=>(h.ext hW).cell;have J:∀ W,Ext x W->_:=fun W hW=>(h.ext hW).frozen;go_wp2_with (first
  |(go_at_call 42;refine (HR.out x f).mono ?_;rintro e T ⟨U,X,V,z,S,O,rfl,M,g⟩;clear G l H)
  |(go_at_call 114;refine (zfG M.reads hsz.out.1 hsz.out.2 hcv.out.1 hcv.out.2).mono ?_;rintro e i ⟨A2,n2,k2,A3,n3,k3,rfl,o,r⟩;have a:=g.trans r;have b62:=h.ext a;have R:=b62.cell;have L:=b62.frozen;clear Q J))
 have y:Frm (fun b=>b=w.heap.size+1+1+1) i (((((i.setCell ⟨w.heap.size+1+1+1,0,fW⟩ (.bool (hdX v.code v.asm v.tr))).setCell ⟨w.heap.size+1+1+1,1,fW⟩ (.int iX (ziy v.code v.asm v.tr).al)).setCell ⟨w.heap.size+1+1+1,2,fW⟩ (fF A2 n2 k2)).setCell ⟨w.heap.size+1+1+1,3,fW⟩ (fF A3 n3 k3)).setCell ⟨w.heap.size+1+1+1,4,fW⟩ (.string (ziz v.code v.asm v.tr))):=((((dG i _ 0 _).trans (dG _ _ 1 _)).trans (dG _ _ 2 _)).trans (dG _ _ 3 _)).trans (dG _ _ 4 _);have j:Blk (((((i.setCell ⟨w.heap.size+1+1+1,0,fW⟩ (.bool (hdX v.code v.asm v.tr))).setCell ⟨w.heap.size+1+1+1,1,fW⟩ (.int iX (ziy v.code v.asm v.tr).al)).setCell ⟨w.heap.size+1+1+1,2,fW⟩ (fF A2 n2 k2)).setCell ⟨w.heap.size+1+1+1,3,fW⟩ (fF A3 n3 k3)).setCell ⟨w.heap.size+1+1+1,4,fW⟩ (.string (ziz v.code v.asm v.tr))) (w.heap.size+1+1+1) 60 #[j9 (hdX v.code v.asm v.tr),.int iX (ziy v.code v.asm v.tr).al,fF A2 n2 k2,fF A3 n3 k3,kC (ziz v.code v.asm v.tr)]:=by
  exact yX15a3
 have q:=(o.aw b62 y dM).less (show w.heap.size<=T.heap.size by have:=f.size;have:=g.size;omega);have u:=(f.trans a).frm y (fun k hk e=>oM);have I:=j.cell;exact bodyPost_ret (v:=.tuple #[j4 #[j9 (hdX v.code v.asm v.tr),.int iX (ziy v.code v.asm v.tr).al,fF A2 n2 k2,fF A3 n3 k3,kC (ziz v.code v.asm v.tr)],j9 (okC v.code v.asm v.tr)]) (by simp [results,Tryz.results45,go_sem,I]) rfl ⟨A2,n2,k2,A3,n3,k3,rfl,q,u⟩
theorem zfd {v:Vd} (HR:Hid (∀ W,Ext w W->j8 j5 20 #[j4 #[s.al,s.st,fF A n c],j4 #[t.al,t.st,fF C k c2],j4 #[p.al,fF B m d,fF B' m' d']] W (zhz W v)))(hsz:Hid (v.asm.size<=1048576/\v.tr.size<=9223372036854775807))(hcv:Hid ((v.code=0->zP jV v.asm v.tr=jV)/\(v.code=1->zP j3 v.asm v.tr=jV))) :
  j8 j5 44 #[j4 #[s.al,s.st,fF A n c],j4 #[t.al,t.st,fF C k c2],j4 #[p.al,fF B m d,fF B' m' d']] w
   (zcr w (hdX v.code v.asm v.tr) (ziy v.code v.asm v.tr) (ziz v.code v.asm v.tr) (okC v.code v.asm v.tr)):=by
 have f:Ext w ((((w.alloc (.cells #[s.al,s.st,fF A n c] 38)).alloc (.cells #[t.al,t.st,fF C k c2] 38)).alloc (.cells #[p.al,fF B m d,fF B' m' d'] 27)).alloc (.cells #[j9 j3,(0:Int),(),(),kC ⟨#[]⟩] 60)):=((((cY _).alloc _).alloc _).alloc _).alloc _;obtain⟨D,E,F⟩:=zL ((cY _).alloc _:Ext (((w.alloc (.cells #[s.al,s.st,fF A n c] 38)).alloc (.cells #[t.al,t.st,fF C k c2] 38)).alloc (.cells #[p.al,fF B m d,fF B' m' d'] 27)) ((((w.alloc (.cells #[s.al,s.st,fF A n c] 38)).alloc (.cells #[t.al,t.st,fF C k c2] 38)).alloc (.cells #[p.al,fF B m d,fF B' m' d'] 27)).alloc (.cells #[j9 j3,(0:Int),(),(),kC ⟨#[]⟩] 60)));have h:=eB (((w.alloc (.cells #[s.al,s.st,fF A n c] 38)).alloc (.cells #[t.al,t.st,fF C k c2] 38)).alloc (.cells #[p.al,fF B m d,fF B' m' d'] 27)) 60 #[j9 j3,(0:Int),(),(),kC ⟨#[]⟩];simp only [World.size_alloc] at h
 go_enter Tryz.func44,Tryz.ntmps44
 go_upto_region 1 with fail
 generalize ((((w.alloc _).alloc _).alloc _).alloc _)=x at *;have G:=D.cell;have l:=E.cell;have H:=F.cell;have Q:=fun W (hW:Ext x W)=>(h.ext hW).cell;have J:∀ W,Ext x W->_:=fun W hW=>(h.ext hW).frozen;go_wp2_with (first
  |(go_at_call 20;refine (HR.out x f).mono ?_;rintro e T ⟨U,X,V,z,S,O,rfl,M,g⟩;clear G l H)
  |(go_at_call 113;refine (zfA M.reads hsz.out.1 hsz.out.2 hcv.out.1 hcv.out.2).mono ?_;rintro e i ⟨A2,n2,k2,A3,n3,k3,rfl,o,r⟩;have a:=g.trans r;have b62:=h.ext a;have R:=b62.cell;have L:=b62.frozen;clear Q J))
 have y:Frm (fun b=>b=w.heap.size+1+1+1) i (((((i.setCell ⟨w.heap.size+1+1+1,0,fW⟩ (.bool (hdX v.code v.asm v.tr))).setCell ⟨w.heap.size+1+1+1,1,fW⟩ (.int iX (ziy v.code v.asm v.tr).al)).setCell ⟨w.heap.size+1+1+1,2,fW⟩ (fF A2 n2 k2)).setCell ⟨w.heap.size+1+1+1,3,fW⟩ (fF A3 n3 k3)).setCell ⟨w.heap.size+1+1+1,4,fW⟩ (.string (ziz v.code v.asm v.tr))):=((((dG i _ 0 _).trans (dG _ _ 1 _)).trans (dG _ _ 2 _)).trans (dG _ _ 3 _)).trans (dG _ _ 4 _);have j:Blk (((((i.setCell ⟨w.heap.size+1+1+1,0,fW⟩ (.bool (hdX v.code v.asm v.tr))).setCell ⟨w.heap.size+1+1+1,1,fW⟩ (.int iX (ziy v.code v.asm v.tr).al)).setCell ⟨w.heap.size+1+1+1,2,fW⟩ (fF A2 n2 k2)).setCell ⟨w.heap.size+1+1+1,3,fW⟩ (fF A3 n3 k3)).setCell ⟨w.heap.size+1+1+1,4,fW⟩ (.string (ziz v.code v.asm v.tr))) (w.heap.size+1+1+1) 60 #[j9 (hdX v.code v.asm v.tr),.int iX (ziy v.code v.asm v.tr).al,fF A2 n2 k2,fF A3 n3 k3,kC (ziz v.code v.asm v.tr)]:=by
  exact yX15a3
 have q:=(o.aw b62 y dM).less (show w.heap.size<=T.heap.size by have:=f.size;have:=g.size;omega);have u:=(f.trans a).frm y (fun k hk e=>oM);have I:=j.cell;exact bodyPost_ret (v:=.tuple #[j4 #[j9 (hdX v.code v.asm v.tr),.int iX (ziy v.code v.asm v.tr).al,fF A2 n2 k2,fF A3 n3 k3,kC (ziz v.code v.asm v.tr)],j9 (okC v.code v.asm v.tr)]) (by simp [results,Tryz.results44,go_sem,I]) rfl ⟨A2,n2,k2,A3,n3,k3,rfl,q,u⟩
theorem impl_CertifyPair (hs:zY w lo hi A n s)(hp:zK w lo1 hi1 B m B' m' p)(ht:zY w lo2 hi2 C k t)(hT:Tab w) :
  j8 j5 44 #[j4 #[s.al,s.st,fF A n c],j4 #[t.al,t.st,fF C k c2],j4 #[p.al,fF B m d,fF B' m' d']] w (zcr w (hdX (vpT s t p).code (vpT s t p).asm (vpT s t p).tr) (ziy (vpT s t p).code (vpT s t p).asm (vpT s t p).tr) (ziz (vpT s t p).code (vpT s t p).asm (vpT s t p).tr) (okC (vpT s t p).code (vpT s t p).asm (vpT s t p).tr)):=
 zfd (za (fun W (hW:Ext w W)=>zhL (hs.ext hW) (hp.ext hW) (ht.ext hW) (hT.ext hW))) (za ⟨(zhw s t p).1,dL (zhw s t p).2 oM⟩) (za (vpT_cert s t p))
theorem zhe (hs:zY w lo hi A n s)(hp:zK w lo1 hi1 B m B' m' p)(ht:zY w lo2 hi2 C k t)(hhi:hi<=w.heap.size) :
  j8 j5 42 #[j4 #[s.al,s.st,fF A n c],j4 #[t.al,t.st,fF C k c2],j4 #[p.al,fF B m d,fF B' m' d']] w (zhz w (vpT s t p)):=by
 rcases zcw s t p with h|⟨L,h⟩
 ·rw [zgI h];exact zdC (za (fun W (hW:Ext w W)=>spec_l12Run0 (K:=12) (hs.ext hW) (hp.ext hW) (ht.ext hW) h))
 ·rw [zgJ h];have a:=(zbk (show 0<=iface s p t by omega)).1;exact zid hs hp ht h (by have:=hs.1;have:=valid_len a;omega) hhi
theorem spec_CertifyPairB (hs:zY w lo hi A n s)(hp:zK w lo1 hi1 B m B' m' p)(ht:zY w lo2 hi2 C k t)(hhi:hi<=w.heap.size) :
  j8 j5 45 #[j4 #[s.al,s.st,fF A n c],j4 #[t.al,t.st,fF C k c2],j4 #[p.al,fF B m d,fF B' m' d']] w (zcr w (hdX (vpT s t p).code (vpT s t p).asm (vpT s t p).tr) (ziy (vpT s t p).code (vpT s t p).asm (vpT s t p).tr) (ziz (vpT s t p).code (vpT s t p).asm (vpT s t p).tr) (okC (vpT s t p).code (vpT s t p).asm (vpT s t p).tr)):=
 zfi (za (fun W (hW:Ext w W)=>zhe (hs.ext hW) (hp.ext hW) (ht.ext hW) (dL hhi hW.size))) (za ⟨(zhw s t p).1,dL (zhw s t p).2 oM⟩) (za (vpT_cert s t p))
end
def shA (al p k:Nat) (a:Aut):Prop:=a.al=al/\a.next.length=p/\a.acc.length=p/\∀ l∈a.next,l.length=k
theorem zgo {R M a p:Nat} (h:Rd w R M)(hM:M<=900000000)(ha:a<64)(hp:p<=16) :
  j8 j5 164 #[kD (fV R),a,p] w (zgY R (M+400) (shA a p (letters a 6).length) w):=by
 have av:Sm a:=tM;have an:=h.lt
 go_enter Tryz.func164,Tryz.ntmps164
 have ad:=(cY w).alloc (.cells #[(0:Int),(),()] 27);have bz:=eB w 27 #[(0:Int),(),()];have S:=(cY (w.alloc (.cells #[(0:Int),(),()] 27))).alloc (.cells #[a,(),()] 27);have bG:=eB (w.alloc (.cells #[(0:Int),(),()] 27)) 27 #[a,(),()];have ax:=bz.lt;have aw:(w.alloc (.cells #[(0:Int),(),()] 27)).heap.size=w.heap.size+1:=sM;rw [aw] at bG;go_upto_region 2 with fail
 generalize (w.alloc _).alloc _=w2 at *;generalize w.alloc _=T at *;go_wp2_with fail
 refine (zak a av _).mono ?_;rintro e w3 ⟨B,d,rfl,-,G⟩;have c:zbO T w3 R (w.heap.size+1) M a (fF fW 0 0) [] [] (fF fW 0 0) []:=⟨bG.ext G,World.ownsRow_nil _ _ _ _,zB.nil _ _,World.ownsRow_nil _ _ _ _,h.ext ((ad.trans S).trans G),(S.trans G).dr,oM,oM⟩;have aI:=zA a 6;clear bG G S;generalize (letters a 6).length=k at *;go_wp2_with fail
 go_loopw [9] (fun iv wr=>∃ (i:Nat) (v:j6) (g:List j6) (H:List (List Int)) (vA:j6) (r:List Bool),i<=p/\iv=.int iX (i:Nat)/\zbO T wr R (w.heap.size+1) (M+i*20) a v g H vA r/\H.length=i/\r.length=i/\Hid (∀ l∈H,l.length=k)) (fun iv _=>p - (intOf iv).toNat)
 case atStart=>exact⟨0,_,[],[],_,[],dH _,rfl,c,rfl,rfl,za (fun l hl=>by simp at hl)⟩
 case round =>
  clear c;obtain⟨i,v,g,H,vA,r,hi,rfl,c,u,F,V⟩:=hrel
  by_cases hip:i<p
  ·have C:=za c.low;have hK:=za (show T.heap.size<=wr.heap.size from c.dr.size);have h0:=World.ownsRow_made (base:=wr.heap.size) (e:=3) (size:=1) wr #[] 0 (dE _) (dH _) rfl;have Q:=(cY wr).alloc (.cells #[] 3);have m:=c.ext Q;go_upto_region 7 with fail
   clear c;obtain⟨I,ab⟩:∃ I,I=wr:=⟨_,rfl⟩;rw [<- ab] at h0 C hK m Q ⊢;clear ab;generalize I.alloc _=w4 at *;go_wp2_with fail
   go_loopw [10,11] (fun rv jv wr=>∃ (j:Nat) (l:List Int),j<=k/\jv=.int iX (j:Nat)/\zbO T wr R (w.heap.size+1) (M+i*20+j) a v g H vA r/\l.length=j/\wr.ownsRow I.heap.size 3 1 rv j (ints l)/\Hid (I.heap.size<=wr.heap.size)) (fun _ jv _=>k - (intOf jv).toNat)
   case atStart=>exact⟨0,[],dH _,rfl,m,rfl,h0,za Q.size⟩
   case round =>
    clear m h0;obtain⟨j,l,hj,rfl,c,t,f,au⟩:=hrel
    by_cases hjk:j<k
    ·obtain⟨AR,cR,rfl⟩:=zh f;go_wp2_with fail
     refine (zE c.rd oM).mono ?_;rintro e w5 ⟨y,rfl,-,-,ap,L⟩;have J:=c.drawn L ap;have E:=zbA f L (fun b h1 e=>by have:=c.dr.size;have:=c.hR;have:=hK.out;omega);have aa:I.heap.size<=w5.heap.size:=dL au.out L.size;have O:=za t;clear t c f;go_wp2_with (at_builtin;refine zI I w5 rfl _ _ _ rfl 3 _ 1 8 Tryz.underlying110 zR rfl dM (fF AR j cR) j (ints l) _ _ rfl rfl aa E rfl (by simp [Value.oneCell']) lM oM ?_;intro g5 cap5 w6 hown6 hg6 hat6 hlt6)
     go_roundw
     case rel=>exact⟨j+1,l++[(y:Int)],oM,gM,(J.side C.out hK.out E hg6).more oM,by simp [O.out],by simpa [ints] using hown6,za (dL aa hg6.size)⟩
     case measure=>exact uM
    ·obtain rfl:j=k:=oM;obtain⟨AR,cR,rfl⟩:=zh f;have cG:=c.blk.cell;have ar:=c.dr.size;have D:wr.ownsRow I.heap.size 3 1 (fF AR j cR) l.length (ints l):=by rw [t];exact f
     go_upto_region 12 with (at_builtin;refine zI T wr rfl _ _ _ rfl 110 _ 1 24 Tryz.underlying24 zbs rfl dM v H.length g _ _ rfl rfl ar c.nx rfl (zaG _ _ _) lM oM ?_;intro g5 cap5 w6 hown6 hg6 hat6 hlt6;obtain⟨q1,q2,q3⟩:=c.ax C.out hK.out D hown6 hg6 hat6;have ay:=q1.out)
     rw [u] at q3;clear q1 ay q2 hown6 hg6 hat6 hlt6 f D cG c;have Y:=za (show ∀ l'∈H++[l],l'.length=j from fun l' O=>by
      rcases List.mem_append.1 O with h1|h1
      ·exact V.out l' h1
      ·rw [List.mem_singleton.1 h1];exact t)
     have Z:(H++[l]).length=i+1:=by simp [u]
     clear t u;generalize H++[l]=aJ at *;generalize g++[fF AR j cR]=az at *;generalize w6.setCell ⟨w.heap.size+1,1,fW⟩ (fF (fV g5) (i+1) cap5)=w7 at *;generalize fF (fV g5) (i+1) cap5=v7 at *;have cG:∀ W,Dr R w7 W->∀ q,W.cell? ⟨w.heap.size+1,q,fW⟩=#[Value.int iX a,v7,vA][q]?:=fun W hW=>(q3.blk.dr hW oM).cell;refine tR (fun X=>Dr R w7 X) [6,8] (Ord.of [0,1,2,3,4,5,6,7,8]) ?_;refine tQ ?_;refine zD fun K hK=>?_;go_simp;refine (zE (n:=3) (q3.rd.ext ((cY _).drew)) oM).mono ?_;rintro e w8 ⟨z,rfl,-,-,aq,ao⟩;have s:Dr R w7 w8:=((Dr.refl R w7).drew).trans ao;have o:=q3.drawn s aq;refine hK.out _ _ s ?_;refine pT ?_;refine tQ ?_;refine zD fun K hK=>?_;go_simp;refine hK.out _ _ (s.alloc _) ?_;refine pT ?_;refine zQ fun K hK=>?_
     trace_state
     refine zaE T w8 _ _ _ rfl 4 _ 1 1 Tryz.underlying25 zaK rfl dM vA r.length (zaa r) _ _ rfl rfl o.dr.size o.acc rfl (by simp [Value.oneCell']) lM oM ?_;intro g9 cap9 w9 hown9 hg9 hat9 hlt9;refine hK.out _ _ ?_;refine pT ?_;refine tQ ?_;obtain⟨p1,p2,p3⟩:=o.aq (x:=decide (0<z)) (W':=w9) hown9 hg9 hat9;have aL:=p1.out;rw [F] at p3;refine zQ fun K hK=>?_;go_simp;refine hK.out _ _ ?_;refine zap ?_;go_wp2_with fail
     go_roundw
     case rel=>exact⟨i+1,_,_,_,_,_,oM,gM,p3.more oM,Z,by simp [F],Y⟩
     case measure=>exact uM
  ·obtain rfl:i=p:=oM;obtain⟨A5,c5,rfl⟩:=zh c.nx;obtain⟨B5,d5,rfl⟩:=zh c.acc;obtain⟨f1,f2⟩:=c.fin (N:=M+400) (sh:=shA a i k) ad bz rfl an (dE _) ax oM ⟨rfl,u,F,V.out⟩;rw [u,F] at f1 f2;have cG:=c.blk.cell;have U:=bz.dr c.dr oM;have cZ:=U.cell;have fZ:=U.frozen;go_wp2_with fail
   have cf:=f2.cell;exact bodyPost_ret (v:=j4 #[a,fF A5 i c5,fF B5 i d5]) (by simp [results,Tryz.results164,go_sem,cf]) rfl f1.out
end Go.Proofs.YtckbjnndaaoddaaGreatDoor
