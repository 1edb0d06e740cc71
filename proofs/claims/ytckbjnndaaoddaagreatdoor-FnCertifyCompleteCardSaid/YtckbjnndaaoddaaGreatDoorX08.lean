/- spec.ParseSy -/
import Derived.Laws.Strings
import Derived.Test.YtckbjnndaaoddaaGreatDoorX07
import Derived.WideKeyArr
set_option maxHeartbeats 4000000
set_option maxRecDepth 100000
namespace Go.Proofs.YtckbjnndaaoddaaGreatDoor
open Go Go.RowKit
open Ext renaming drew->fC,refl->cY,trans->eO,x1_->gP
open List renaming append_assoc->iD,drop_eq_getElem_cons->fM,flatMap_append->jT,getElem?_eq_getElem->dC,getElem?_of_mem->eA,getElem?_take_of_lt->jU,length_map->dS,length_take->eW,map_append->eI,map_cons->fL,map_singleton->iQ,mem_of_getElem?->dD,take_add_one->dO,take_append_drop->jI,take_of_length_le->dK,getElem?_eq_some_iff->kB,mem_append->kF
open Nat renaming eq_zero_or_pos->gJ,le_refl->dE,zero_le->dH
open Option renaming toList_some->eH,isSome_iff_exists->kL,none->fW,some->fV
open Reads renaming af->eF
open Bool renaming false->j3,true->jV
open Go renaming Calls->j8,Value->j6,World->j2
open Go.Ending renaming returned->j7
open Go.IntKind renaming i64->iX
open Go.Value renaming agg->j4,bool->j9,slice->fF
open Option.some renaming inj->kA
open _root_.Go.Proofs.Tryz renaming prog->j5
variable {A C:Option Addr} {L M R c cc hi k lo n nc:Nat} {T:List Nat} {W w:j2} {cols l rows:List ByteArray} {es:List Edg} {f:ByteArray->Bool} {s:Sys} {t x y:ByteArray}
theorem wpList_push2 {P:Program} (wb w:j2) {ops:Array Oper} {rest:List Oper} {o:Oper} {a:Act} {Q:Exit->Act->j2->Prop}(hgd:o.guard=fW) (s x:Operand) (t:TypeId)
  (ho:o.op=.call { callee:=.builtin .append,args:=#[s,x],argTypes:=#[t,t] })
  (e:TypeId) (z:j6) (size bytes:Nat) (ht:P.underlying t=fV (.slice e)) (hi:(P.info? e).map (fun i=>(i.zero,i.size,i.bytes))=fV (fV z,size,bytes)) (hzs:z.cells.size=size) (hsz:0<size)
  (v:j6) (n:Nat) (xs:List j6) (us:Array j6) (e':TypeId) (hs:a.eval s=v) (hx:a.eval x=fF (fV w.heap.size) 1 1)
  (zkt:wb.heap.size<=w.heap.size) (zkr:w.ownsRow wb.heap.size e size v n xs) (hus:us.size=size) (h1:∀ u∈us.toList,u.oneCell'=jV)
  (h63:n+1<=maxLen) (hbytes:(n+1)*bytes<=140737488355328)
  (h:∀ g cap w',w'.ownsRow wb.heap.size e size (fF (fV ⟨g,0,fW⟩) (n+1) cap) (n+1) (xs++us.toList)->w.grownBy w' v.ownBlock->(v.ownBlock=fV g\/g=w.heap.size+1)->g<w'.heap.size->wpList P ops Q rest (a.put o.dst (fF (fV ⟨g,0,fW⟩) (n+1) cap)) w') :
  wpList P ops Q (o :: rest) a (w.alloc (.cells us e')):=
 wpList_plain hgd fun _ hK=>zaE wb w s x t ho e z size bytes ht hi hzs hsz v n xs us e' hs hx zkt zkr hus h1 h63 hbytes fun g cap w' h2 h3 h4 h5=>hK _ _ (h g cap w' h2 h3 h4 h5)
theorem Reads.str (h:Reads w lo hi 1 A n (zO l))(hk:k<n):∃ ad x,A=fV ad/\lo<=ad.block/\ad.block<hi/\Hid (l[k]?=fV x)/\w.cell? (ad.add k)=fV (.string x):=by
 obtain⟨ad,u,e,a,b,d,c⟩:=h.one hk;have:=d.out;simp only [zO,List.getElem?_map,Option.map_eq_some_iff] at this;obtain⟨x,f,rfl⟩:=this;exact⟨ad,x,e,a,b,f,c⟩
theorem valid_good (h:zl s=jV):Good s:=by
 obtain⟨p,i,c,d,g⟩:=zdo h;obtain⟨a,f,b⟩:=valid_al h;exact⟨a,p,f,b,i,c,d,g⟩
theorem Acc.fillRD {w0 wB:j2} {G Z:Nat} {al st:Int} {v:j6} (h:Acc w0 wB W R G M al st v es)(hZ:w0.heap.size<=Z) (u0 u1 u2:j6) :
  Rd (((W.setCell Z u0).setCell ⟨Z,1,fW⟩ u1).setCell ⟨Z,2,fW⟩ u2) R M/\Dr R w0 (((W.setCell Z u0).setCell ⟨Z,1,fW⟩ u1).setCell ⟨Z,2,fW⟩ u2):=
 ⟨h.rd.frm (zeS W Z u0 u1 u2) (fun k h1 h2=>oH h.hR),((h.dr.ag (p:=⟨Z,0,fW⟩) hZ u0).ag (p:=⟨Z,1,fW⟩) hZ u1).ag (p:=⟨Z,2,fW⟩) hZ u2⟩
theorem str_empty (h:t.toList=x.toList)(h0:t.size=0):x.size=0:=by
 have a:=congrArg List.length h;rw [ByteArray.toList_eq,ByteArray.toList_eq] at a;have b:t.data.toList.length=t.size:=rfl;have c:x.data.toList.length=x.size:=rfl;omega
def Fair (s:Sys):Prop:=∃ a p:Nat,s.al=a/\a<64/\s.st=p/\p<=16/\Few (p+1) s.edges
theorem Good.fair (h:Good s):Fair s:=by
 obtain⟨a,p,b,c,d,_,f,g⟩:=h;exact⟨a,p,b,c,d,f,fun e he=>by have:=g e he;omega⟩
theorem fair_zero:Fair ⟨0,0,[]⟩:=⟨0,0,rfl,oM,rfl,oM,fun e he=>by cases he⟩
def zjr (R M L:Nat) (w:j2) (e:Ending) (w':j2):Prop:=
 ∃ (s:Sys) (A:Option Addr) (n c:Nat) (ok:Bool),e=j7 (.tuple #[j4 #[s.al,s.st,fF A n c],j9 ok])/\zbR w' R A n s/\((ok=jV->Good s)/\Fair s)/\(n<=L/\n<=c)/\Rd w' R M/\Dr R w w'
theorem zht {w':j2}(h:Rd w' R M)(hd:Dr R w w'):zjr R M L w (j7 (.tuple #[j4 #[(0:Int),(0:Int),()],j9 j3])) w':=
 ⟨⟨0,0,[]⟩,fW,0,0,j3,rfl,⟨rfl,oM,fun h0=>oM⟩,⟨(fun h=>by cases h),fair_zero⟩,⟨dH _,dE _⟩,h,hd⟩
theorem yX08a1 {P:Prop}(h:P:=by
 obtain⟨g1,g2⟩:=hacc4.fillRD (Z:=w.heap.size) (Nat.le_refl _) (.int .i64 0) (.int .i64 0) (.slice none 0 0);exact bodyPost_ret (v:=.tuple #[.agg #[(0:Int),(0:Int),()],.bool false]) (by simp [results,Tryz.results181,go_sem,hz4]) rfl (zht g1 g2)
 ):P:=h
theorem yX08a2 {P:Prop}(h:P:=by
 go_wp2_with fail
 exact bodyPost_ret (v:=.tuple #[.agg #[(0:Int),(0:Int),()],.bool false]) (by simp [results,Tryz.results181,go_sem,cz2]) rfl Hnone.out
 ):P:=h
theorem zcQ (h:Rd w R M)(hx:x.size<=1000) :
  j8 j5 181 #[x] w (zjr R M 1001 w):=by
 have aq:=h.lt
 go_enter Tryz.func181,Tryz.ntmps181
 go_wp2_with fail
 refine (spec_l19Cut (s:=x) oM).mono ?_;rintro e w1 ⟨B,m,d,l,rfl,ag,ak,af,hm,C⟩;have E:=zcC C;have a6:=E.lt;have G:=((cY w).alloc _).trans C;have V:=(eF ak).more (lo':=w.heap.size+1) (hi':=w1.heap.size) sM (dE _);have ab:=za af;have aO:=za ag;clear ak af ag C;have cz:=E.cell;have fz:=E.frozen;have z:=za (fun (W:j2) (hW:Ext w1 W) (u0 u1 u2:j6)=>(⟨(h.ext (G.trans hW)).frm (zeS W w.heap.size u0 u1 u2) (fun k hk hS=>oM),(((G.trans hW).dr.ag (R:=R) (p:=⟨w.heap.size,0,fW⟩) (dE _) u0).ag (p:=⟨w.heap.size,1,fW⟩) (dE _) u1).ag (p:=⟨w.heap.size,2,fW⟩) (dE _) u2⟩:Rd (((W.setCell w.heap.size u0).setCell ⟨w.heap.size,1,fW⟩ u1).setCell ⟨w.heap.size,2,fW⟩ u2) R M/\Dr R w (((W.setCell w.heap.size u0).setCell ⟨w.heap.size,1,fW⟩ u1).setCell ⟨w.heap.size,2,fW⟩ u2)))
 by_cases hm2:m<2
 ·go_wp2_with fail
  obtain⟨g1,g2⟩:=z.out w1 (cY _) (.int iX 0) (.int iX 0) (fF fW 0 0);exact bodyPost_ret (v:=.tuple #[j4 #[(0:Int),(0:Int),()],j9 j3]) (by simp [results,Tryz.results181,go_sem,cz]) rfl (zht g1 g2)
 ·obtain⟨ad,x0,rfl,a2,aZ,a3,T⟩:=V.str (k:=0) oM;obtain⟨b,o,rfl⟩:∃ b o,ad=⟨b,o,fW⟩:=⟨_,_,zdM T⟩;rw [zad,Nat.add_zero] at T;obtain⟨aP,x1,S,_,_,C,U⟩:=V.str (k:=1) oM;obtain rfl:=kA S;rw [zad] at U;have aI:(2:Int)<=(m:Int):=oM;have ar:=za (ab.out x1 (dD C.out));go_wp2_with fail
  refine (zdB (x:=x0)).mono ?_;rintro e O ⟨a,aA,rfl,ha,u⟩;have ae:=u.aa U;have Q:=E.ext u;have cz2:=Q.cell;have ao:=Q.frozen;go_wp2_with fail
  refine (zeo (s:=x1) (oH ar.out)).mono ?_;rintro e a8 ⟨y,aB,rfl,rfl⟩;obtain⟨g1,g2⟩:=z.out O u (.int iX 0) (.int iX 0) (fF fW 0 0);have Hnone:=za (zht (L:=1001) g1 g2);clear g1 g2;cases aA
  ·exact yX08a2
  ·cases aB
   ·exact yX08a2
   ·have bG:=Blk.new O 38 #[a,y,()];have Y:=(cY O).alloc (.cells #[a,y,()] 38);have a5:O.heap.size<(O.alloc (.cells #[a,y,()] 38)).heap.size:=sM;have aK:=u.size;have aJ:=G.size;have ax:=G.trans u;clear T U ae cz fz cz2 ao;go_wp2_with fail
    generalize O.alloc _=w3 at *;have X:=ax.trans Y;have ah:=(V.ext u).ext Y;have an:=Q.ext Y;have f:Acc w w3 w3 R O.heap.size M a y (fF fW 0 0) []:=⟨bG,World.ownsRow_nil _ _ _ _,h.ext X,X.dr,Frm.refl _ _,aq,X.size,oM⟩
    go_loopw [10] (fun i wr=>∃ (k:Nat) (v:j6) (t:List Edg),2<=k/\k<=m/\i=.int iX k/\Acc w w3 wr R O.heap.size M a y v t/\t.length<=k) (fun i _=>m - (intOf i).toNat)
    case atStart=>exact⟨2,_,[],dE _,oM,rfl,f,dH _⟩
    case round =>
     clear f;obtain⟨k,v,t,a1,hk,rfl,f,aY⟩:=hrel;have hG:=f.blk.cell;have F:=an.frm f.fr oM;have H:=F.cell;have I:=F.frozen;have ai:=f.old ah oM
     by_cases hlt:k<m
     ·obtain⟨ad,xk,S,_,_,ay,av⟩:=ai.str hlt;obtain rfl:=kA S;rw [zad] at av;have au:=za (ab.out xk (dD ay.out));clear H I;go_wp2_with fail
      refine (spec_l2Parse (s:=xk) (oH au.out)).mono ?_;rintro e w4 ⟨r,aC,rfl,D⟩;have hacc4:=f.ext (D.alloc (.cells #[r.fr,r.le,r.ta] 117));have aR:=Blk.new w4 117 #[r.fr,r.le,r.ta];have j:=F.ext (D.alloc (.cells #[r.fr,r.le,r.ta] 117));clear hG;cases aC
      ·have hz4:=j.cell;have az:=j.frozen;go_wp2_with fail
       generalize w4.alloc _=wq at *;exact yX08a1
      ·have ap:=hacc4.blk.cell;go_wp2_with (at_builtin;refine wpList_push2 w3 (w4.alloc (.cells #[r.fr,r.le,r.ta] 117)) rfl _ _ _ rfl 117 _ 3 24 Tryz.underlying36 zbm rfl dM v t.length (zw t) _ _ rfl (by first|rfl|simp [go_sem]) hacc4.fr.size hacc4.own rfl (by simp [Value.oneCell']) lM oM ?_;intro g cap w5 zkD hg5 hat5 hlt5;obtain⟨h1,h2,h3⟩:=hacc4.push (e:=r) (W':=w5) zkD hg5 hat5;have aV:=h1.out)
       go_roundw
       case rel=>exact⟨k+1,_,_,oM,oM,gM,h3,by simp;omega⟩
       case measure=>exact uM
     ·obtain rfl:m=k:=oM;obtain⟨A,n,c,rfl⟩:=f.form;obtain⟨rfl,aj⟩:=f.reads;clear H I;go_wp2_with fail
      refine (zgF (s:=⟨a,y,t⟩) aj oM).mono ?_;rintro e w4 ⟨tx,rfl,aw,D⟩;have hacc4:=f.ext D;have j:=F.ext D;have hz4:=j.cell;have az:=j.frozen;have ap:=hacc4.blk.cell;cases hne:tx.toList==x.toList
      ·go_wp2_with fail
       exact yX08a1
      ·have J:zl (⟨a,y,t⟩:Sys)=jV:=by
        cases hv:zl (⟨a,y,t⟩:Sys)
        ·exfalso;have h0:=aw hv;have a4:x.size=0:=str_empty (by simpa using hne) h0;omega
        ·rfl
       have q:=valid_good J;have aH:=zjU hacc4.own;obtain⟨g1,g2,g3⟩:=hacc4.fin (Z:=w.heap.size) (dE _) oM (.int iX a) (.int iX y) (fF A t.length c);have aa:=za (show zjr R M 1001 w (j7 (.tuple #[j4 #[a,y,fF A t.length c],j9 jV])) _ from ⟨⟨a,y,t⟩,A,t.length,c,jV,rfl,g1,⟨fun _=>q,q.fair⟩,oM,g2,g3⟩);clear g1 g2 g3 q J;go_wp2_with fail
       exact bodyPost_ret (v:=.tuple #[j4 #[a,y,fF A t.length c],j9 jV]) (by simp [results,Tryz.results181,go_sem,hz4]) rfl aa.out
structure Tch (w:j2) (A:Option Addr) (n:Nat) (B:Option Addr) (m:Nat) (B':Option Addr) (m':Nat) (s:Sys) (p:Aut) (L:Nat):Prop where
 at_:∃ lo hi,zY w lo hi A n s/\zK w lo hi B m B' m' p/\hi<=w.heap.size
 sv:zl s=jV
 pv:zj p=jV
 lt:L<64
section
variable {w W:j2} {n c m d m' d' L:Nat} {A B B':Option Addr} {s:Sys} {p:Aut}
theorem Tch.ext (h:Tch w A n B m B' m' s p L)(hx:Ext w W):Tch W A n B m B' m' s p L:=by
 obtain⟨f,d,a,b,c⟩:=h.at_;exact⟨⟨f,d,a.ext hx,b.ext hx,Nat.le_trans c hx.size⟩,h.sv,h.pv,h.lt⟩
theorem zba (h:Tch w A n B m B' m' s p L) :
  j8 j5 133 #[j4 #[j9 j3,(0:Int),(),(),s.al,s.st,fF A n c,p.al,fF B m d,fF B' m' d',L]] w fun e w'=>e=j7 (.int iX (L:Nat))/\Ext w w':=by
 obtain⟨t,r,f,g,q⟩:=h.at_;have i:=za (fun W (hW:Ext w W)=>zfq (c:=c) (d:=d) (d':=d') (L:=L) (f.ext hW) (g.ext hW) h.sv h.pv h.lt);clear h f g
 go_enter Tryz.func133,Tryz.ntmps133
 go_upto_region 1 with fail
 generalize U0:w.alloc _=l at *;obtain⟨a,j⟩:=gP U0;clear U0;have o:=j.cells;have k:=cY l;go_wp2_with (first
  |(go_at_call 145;refine (i.out _ a).mono (mQ fun u b=>?_)))
 go_ret;exact⟨rfl,a.trans b⟩
theorem zeK (h:Tch w A n B m B' m' s p L)(ht:t.size<=9223372036854775807) :
  j8 j5 214 #[j4 #[j9 j3,(0:Int),(),(),s.al,s.st,fF A n c,p.al,fF B m d,fF B' m' d',L],t] w fun e w'=>e=j7 (.bool (zu s p L t))/\Ext w w':=by
 obtain⟨u,r,f,g,k⟩:=h.at_;have i:=za (fun W (hW:Ext w W)=>zgn (c:=c) (d:=d) (d':=d') (L:=L) (t:=t) (f.ext hW) (g.ext hW) h.sv h.pv h.lt (Nat.le_trans k hW.size) ht);clear h f g
 go_enter Tryz.func214,Tryz.ntmps214
 go_upto_region 1 with fail
 generalize U0:w.alloc _=o at *;obtain⟨a,j⟩:=gP U0;clear U0;have q:=j.cells;have l:=cY o;go_wp2_with (first
  |(go_at_call 62;refine (i.out _ a).mono (mQ fun v b=>?_)))
 go_ret;exact⟨rfl,a.trans b⟩
end
theorem str_loop (b:ByteArray):∀ (k:Nat) (i:Nat) (r:List UInt8),b.size - i=k->ByteArray.toList.loop b i r=r.reverse++b.data.toList.drop i:=by
 intro k
 induction k with
 |zero =>
  intro i r h;unfold ByteArray.toList.loop;rw [if_neg oM,List.drop_of_length_le (by rw [Array.length_toList];show b.size<=i;omega),List.append_nil]
 |succ k ih =>
  intro i r h;have a:i<b.size:=oM;unfold ByteArray.toList.loop;rw [if_pos a,ih (i+1) _ oM,fM (i:=i) (by rw [Array.length_toList];exact a),List.reverse_cons,iD];have e:b.get! i=b.data.toList[i]'(by rw [Array.length_toList];exact a):=by
   rw [Array.getElem_toList];show b.data[i]! = _;exact getElem!_pos b.data i a
  rw [e];rfl
theorem str_data (b:ByteArray):b.toList=b.data.toList:=by
 unfold ByteArray.toList;rw [str_loop b _ 0 [] rfl];rfl
theorem str_ext (h:x.toList=y.toList):x=y:=by
 rw [str_data,str_data] at h;cases x;cases y
 congr 1
 exact Array.toList_inj.1 h
theorem str_ne (h:¬ x=y):(x.toList==y.toList)=j3:=by
 rw [beq_eq_false_iff_ne];exact fun e=>h (str_ext e)
noncomputable def zcT (l:List ByteArray) (x:ByteArray):Bool:=by classical exact decide (x∈l)
theorem zau :zcT l x=jV↔x∈l:=by unfold zcT;simp
theorem zbZ :zcT l x=j3↔x∉l:=by rw [<- Bool.not_eq_true,zau]
theorem zdY (h:Reads w lo hi 1 A n (zO l)) :
  j8 j5 228 #[fF A n c,x] w fun e w'=>e=j7 (.bool (zcT l x))/\w=w':=by
 have t:=h.len;have g:l.length=n:=by have:=h.length;rw [zaY] at this;omega
 have p:=za g;clear g
 go_enter Tryz.func228,Tryz.ntmps228
 go_wp2_with fail
 go_loop [5] (fun iv=>∃ i:Nat,iv=.int iX i/\i<=n/\Hid (∀ j,j<i->l[j]?≠fV x)) (fun iv=>n - (intOf iv).toNat)
 case atStart=>exact⟨0,rfl,dH _,za (fun j h=>oM)⟩
 case round =>
  obtain⟨i,rfl,hi,a⟩:=hrel
  by_cases hlt:i<n
  ·have k:(i:Int)<(n:Int):=oM;obtain⟨r,y,rfl,_,_,m,s⟩:=h.str hlt
   by_cases he:y=x
   ·subst he;have d:=za (zau.2 (dD m.out));go_wp2_with fail
    go_ret;exact⟨zo (by rw [d.out]),rfl⟩
   ·have o:=za he;have f:=str_ne he;clear he;go_wp2_with fail
    go_round
    case rel=>exact⟨i+1,gM,oM,za (fun j b=>by
     rcases Nat.lt_or_eq_of_le (Nat.le_of_lt_succ b) with q|rfl
     ·exact a.out j q
     ·rw [m.out];intro h;exact o.out (kA h))⟩
    case measure=>exact uM
  ·obtain rfl:i=n:=oM;have d:=za (show zcT l x=j3 by
    rw [zbZ];intro hx;obtain⟨j,b⟩:=eA hx;exact a.out j (by have:=(kB.1 b).1;have:=p.out;omega) b)
   go_wp2_with fail
   go_ret;exact⟨zo (by rw [d.out]),rfl⟩
def zbC (f:ByteArray->Bool) (cols:List ByteArray) (x:ByteArray):List Bool:=cols.map fun c=>f (x++c)
def mkB (b:Bool):ByteArray:=if b then ⟨#[43]⟩ else ⟨#[45]⟩
def mkS (bs:List Bool):ByteArray:=bs.foldl (fun o b=>o++mkB b) ByteArray.empty
theorem mkS_snoc (bs:List Bool) (b:Bool):mkS (bs++[b])=mkS bs++mkB b:=by simp [mkS]
theorem zgi:∀ (bs:List Bool),(mkS bs).data.toList=bs.map fun b=>if b then 43 else 45:=by
 have a:∀ (bs:List Bool) (o:ByteArray),(bs.foldl (fun o b=>o++mkB b) o).data.toList=o.data.toList++bs.map fun b=>if b then 43 else 45:=by
  intro bs
  induction bs with
  |nil=>intro o;simp
  |cons b r ih =>
   intro o;rw [List.foldl_cons,ih,ByteArray.data_append,Array.toList_append,iD,fL];cases b<;>rfl
 intro bs;unfold mkS;rw [a];rfl
theorem zjQ {α β:Type} {f:α->β}(hf:∀ x y,f x=f y->x=y):∀ {a b:List α},a.map f=b.map f->a=b
 |[],[],_=>rfl
 |[],_ :: _,h=>by simp at h
 |_ :: _,[],h=>by simp at h
 |x :: a,y :: b,h=>by
  simp only [fL,List.cons.injEq] at h
  rw [hf x y h.1,zjQ hf h.2]
theorem zjR {a b:List Bool}(h:mkS a=mkS b):a=b:=by
 have c:(mkS a).data.toList=(mkS b).data.toList:=by rw [h]
 rw [zgi,zgi] at c;exact zjQ (fun x y=>by cases x<;>cases y<;>simp) c
theorem mkS_size (bs:List Bool):(mkS bs).size=bs.length:=by
 have h:=congrArg List.length (zgi bs);rw [dS,Array.length_toList] at h;exact h
section
variable {w W:j2} {n c m d m' d' L:Nat} {A B B':Option Addr} {s:Sys} {p:Aut}
theorem zfL (h:Tch w A n B m B' m' s p L)(hC:Reads w lo hi 1 C nc (zO cols))(hc:nc<=1000)(hx:x.size<=1000000)(hcs:∀ y∈cols,y.size<=1000000) :
  j8 j5 137 #[j4 #[j9 j3,(0:Int),(),(),s.al,s.st,fF A n c,p.al,fF B m d,fF B' m' d',L],fF C nc cc,x] w fun e w'=>e=j7 (.string (mkS (zbC (zu s p L) cols x)))/\Ext w w':=by
 have D:cols.length=nc:=by have:=hC.length;rw [zaY] at this;omega
 have O:=za (fun W (hW:Ext w W) (y:ByteArray) l=>zeK (c:=c) (d:=d) (d':=d') (t:=y) (h.ext hW) l);have M:=za (fun W (hW:Ext w W)=>hC.ext hW);have Q:=za D;have q:=za hcs;clear h hC D hcs
 go_enter Tryz.func137,Tryz.ntmps137
 go_upto_region 1 with fail
 generalize U0:w.alloc _=H at *;obtain⟨f,S⟩:=gP U0;clear U0;have I:=S.cells;go_wp2_with fail
 go_loopw [7,8] (fun v iv wr=>∃ (k:Nat) (o:ByteArray),iv=.int iX k/\k<=nc/\v=.string o/\o.size<=k/\Hid (o=mkS (zbC (zu s p L) (cols.take k) x))/\Ext H wr) (fun _ iv _=>nc - (intOf iv).toNat)
 case atStart=>exact⟨0,_,rfl,dH _,rfl,dM,za rfl,cY _⟩
 case round =>
  obtain⟨k,o,rfl,hk,rfl,T,F,a⟩:=hrel
  by_cases hlt:k<nc
  ·have E:(k:Int)<(nc:Int):=oM;obtain⟨R,y,rfl,_,_,l,z⟩:=(M.out wr (f.trans a)).str hlt;have Y:=q.out y (dD l.out);have CY:∀ W,Ext wr W->W.cell? (R.add k)=fV (.string y):=fun W hW=>hW.aa z;have J:=fun W (hW:Ext wr W)=>I W (a.trans hW);have U:¬ 9223372036854775807<x.size+y.size:=oM;have G:¬ 9223372036854775807<o.size+1:=oM;have b:(x++y).size<=9223372036854775807:=by rw [ByteArray.size_append];omega
   have g:=za (fun W (hW:Ext wr W)=>O.out W ((f.trans a).trans hW) (x++y) b);have V:=cY wr;have i:=za (show mkS (zbC (zu s p L) (cols.take (k+1)) x)=o++mkB (zu s p L (x++y)) by
    rw [dO,l.out,zbC,eI,<- zbC,F.out,eH,iQ,mkS_snoc])
   obtain⟨bv,r⟩:∃ bv,Hid (zu s p L (x++y)=bv):=⟨_,rfl⟩;rw [r.out] at g i;clear z b;go_wp2_with fail
   go_region_held3 (fun W=>Ext wr W) (first|assumption|(refine fC ?_;assumption)|(refine eO ?_ aM;assumption)|(refine eO ?_ aM;refine fC ?_;assumption)) (first
    |(go_at_call 214;refine (g.out _ ?_).mono ?_;(first|assumption|(refine fC ?_;assumption));rintro e Z ⟨rfl,X⟩))
   have j:Ext H Z:=a.trans aM;cases bv
   all_goals
    go_wp2_with fail
    go_roundw
    case rel=>exact⟨k+1,_,gM,oM,rfl,by rw [ByteArray.size_append];show o.size+1<=k+1;omega,i.symm,j⟩
    case measure=>exact uM
  ·obtain rfl:k=nc:=oM;have u:=za (show mkS (zbC (zu s p L) cols x)=o by rw [F.out,dK (oH Q.out)]);go_wp2_with fail
   go_ret;exact⟨by rw [u.out];rfl,f.trans a⟩
end
section
open Go.WideMaps Go.Maps
def zbq (T:List Nat):List j6:=T.map fun x=>.int .u16 (x:Nat)
theorem zbW (T:List Nat):(zbq T).length=T.length:=by simp [zbq]
def zhb (T:List Nat):j6:=.agg (zbq T).toArray
theorem pset_inj {U:List Nat}(h:zhb T=zhb U):T=U:=by
 unfold zhb zbq at h;injection h with h
 have c:T.map (fun x=>Value.int .u16 (x:Nat))=U.map fun x=>Value.int .u16 (x:Nat):=by simpa using h
 exact zjQ (fun a b e=>by injection e with _ e;exact Int.ofNat.inj e) c
abbrev domP (T:List Nat):Prop:=T.length=12/\∀ x∈T,x<65536
theorem zjd:ArrKey j5 222 220 12:=⟨Tryz.underlying222,kM,kM,kM⟩
theorem types_pos:(0:Nat)<(j5).types.size:=of_decide_eq_true kM
theorem zjp:∃ m,(j5).types.size=m+1:=⟨(j5).types.size - 1,oH types_pos⟩
theorem zhT {α β:Type} {f:α->Option β}:∀ (l:List α),(∀ i∈l,(f i).isSome=jV)->(l.mapM f).isSome=jV
 |[],_=>rfl
 |a :: r,h=>by
  obtain⟨y,hy⟩:=kL.1 (h a sM)
  obtain⟨ys,hys⟩:=kL.1 (zhT r (fun i hi=>h i (by simp [hi])))
  rw [List.mapM_cons,hy,hys]
  rfl
noncomputable def litP (T:List Nat):Lit:=(keyOf j5 222 (zhb T)).getD (.bool j3)
theorem zeF (h:domP T):(keyOf j5 222 (zhb T)).isSome=jV:=by
 obtain⟨c,f⟩:=h;have A:=zjd;obtain⟨m,j⟩:=zjp;have a:=A.keyType zjp;have b:(zbq T).toArray.size=12:=by simp [zbq,c]
 unfold keyOf;simp only [A.hu];rw [if_pos (by simp [a,zhb,Value.formed,A.hu,A.size,zbq,c]),j];unfold Program.keyLits;simp only [A.hu,zhb,Value.cells];rw [if_pos (by rw [A.size];simpa using b)];rw [Option.isSome_map,Option.isSome_map];refine zhT _ fun i hi=>?_;rw [List.mem_range] at hi;obtain⟨x,d⟩:∃ x,T[i]?=fV x:=⟨_,dC oM⟩;have l:=f x (dD d);have g:((zbq T).toArray.toList.drop (i*(j5).cellsOf 220)).take ((j5).cellsOf 220)=[.int .u16 (x:Nat)]:=by
  rw [A.one,Nat.mul_one];simp only [zbq];rw [List.take_one,List.head?_drop];simp [d]
 rw [g];cases m with
 |zero =>
  have n:(1:Nat)<(j5).types.size:=of_decide_eq_true kM;omega
 |succ m =>
 unfold Program.keyLits;have k:(Lit.int .u16 (x:Int)).wf=jV:=by
  simp [Lit.wf,IntKind.min,IntKind.max,IntKind.bits,IntKind.signed];omega
 simp [Tryz.underlying220,k]
theorem keyP:KeyG 150 222 zhb litP domP:=
 ⟨Keyed.of_law zjd.law,Tryz.underlying150,fun h=>by
  obtain⟨l,hl⟩:=kL.1 (zeF h);unfold litP;rw [hl];rfl,fun {x y} hx hy e=>by
  obtain⟨l,hl⟩:=kL.1 (zeF hx);obtain⟨k,hk⟩:=kL.1 (zeF hy);unfold litP at e;rw [hl,hk] at e;obtain rfl:l=k:=by simpa using e
  exact pset_inj ((Keyed.of_law zjd.law).inj hl hk)⟩
theorem keyS:KeyG 169 9 (fun x:ByteArray=>.string x) (fun x=>.string x.data.toList) (fun x=>x.size<=9223372036854775807):=
 ⟨string_keyed Tryz.underlying9,Tryz.underlying169,fun {x} h=>by simp [keyOf,Tryz.underlying9,mapKey,maxLen,h],fun _ _ e=>by
  injection e with e
  exact ByteArray.ext (Array.ext' e)⟩
end
theorem zcZ (es:List Edg):∀ u∈zw es,u.oneCell'=jV:=by
 induction es with
 |nil=>intro u h;cases h
 |cons e r ih =>
  intro u h;simp only [zw,List.mem_cons] at h;rcases h with rfl|rfl|rfl|h
  ·rfl
  ·rfl
  ·rfl
  ·exact ih u h
theorem zeh {e:Edg}(h:es[k]?=fV e) (x:Int) :
  (zw es).set (k*3) (.int iX x)=zw (es.set k ⟨x,e.le,e.ta⟩)/\(zw es).set (k*3+1) (.int iX x)=zw (es.set k ⟨e.fr,x,e.ta⟩)/\(zw es).set (k*3+2) (.int iX x)=zw (es.set k ⟨e.fr,e.le,x⟩):=by
 induction es generalizing k with
 |nil=>simp at h
 |cons a r ih =>
  cases k with
  |zero=>simp at h;subst h;exact⟨rfl,rfl,rfl⟩
  |succ k =>
   have:=ih (k:=k) (by simpa using h);have b:(k+1)*3=k*3+1+1+1:=oM;refine⟨?_,?_,?_⟩<;>rw [b]<;>simp only [zw,List.set_cons_succ]
   ·rw [this.1]
   ·rw [this.2.1]
   ·rw [this.2.2]
section
variable {w0 wB W:j2} {R G M:Nat} {al st:Int} {es:List Edg}
theorem Acc.turn {g m j:Nat} {x:Int} {fs:List Edg}(h:Acc w0 wB W R G M al st (fF (fV g) m c) es)(hm:m=es.length)(hs:(zw es).set j (.int iX x)=zw fs)(hl:fs.length=es.length) :
  Acc w0 wB (W.setCell ⟨g,j,fW⟩ x) R G M al st (fF (fV g) m c) fs:=by
 have d:g≠G:=h.far rfl;have l:=(h.own.lt g rfl).1;have i:=h.hR;have f:=h.hB;have a:=Frm.setCell W g j (.int iX x);refine⟨h.blk.frm a oM,?_,h.rd.frm a (fun k h1 h2=>oM),h.dr.ag (by dsimp only;omega) _,?_,h.hR,h.hB,h.hG⟩
 ·have b:=h.own;rw [<- hm] at b;have:=(b.stored j (.int iX x)).1;rw [hs] at this;rw [hl,<- hm];exact this
 ·exact⟨h.fr.os,h.fr.tape,h.fr.output,by simpa [World.setCell] using h.fr.size,fun k hk hn=>(Below.heap_setCell _ _ _ _ (by dsimp only;omega)).trans (h.fr.block k hk hn)⟩
end
def RetStrL (w:j2) (l:List ByteArray) (e:Ending) (w':j2):Prop:=
 ∃ A c,e=j7 (fF A l.length c)/\w'.ownsRow w.heap.size 9 1 (fF A l.length c) l.length (zO l)/\Ext w w'
def zaD (f:ByteArray->Bool) (cols words:List ByteArray):List ByteArray:=words.map fun x=>mkS (zbC f cols x)
theorem strs_snoc (l:List ByteArray) (x:ByteArray):zO (l++[x])=zO l++[.string x]:=by simp [zO]
section
variable {w W:j2} {n c m d m' d' L:Nat} {A B B':Option Addr} {s:Sys} {p:Aut}
theorem zeM {R:Option Addr} {nr cr lo2 hi2:Nat} (h:Tch w A n B m B' m' s p L)(hC:Reads w lo hi 1 C nc (zO cols))(hR:Reads w lo2 hi2 1 R nr (zO rows))(hc:nc<=1000)(hr:nr<=1000)(hcs:∀ y∈cols,y.size<=1000000)(hrs:∀ y∈rows,y.size<=1000000) :
  j8 j5 135 #[j4 #[j9 j3,(0:Int),(),(),s.al,s.st,fF A n c,p.al,fF B m d,fF B' m' d',L],fF C nc cc,fF R nr cr] w (RetStrL w (zaD (zu s p L) cols rows)):=by
 have I:rows.length=nr:=by have:=hR.length;rw [zaY] at this;omega
 have U:=za (fun W (hW:Ext w W) (y:ByteArray) l=>zfL (c:=c) (d:=d) (d':=d') (cc:=cc) (x:=y) (h.ext hW) (hC.ext hW) hc l hcs);have T:=za (fun W (hW:Ext w W)=>hR.ext hW);have F:=za I;have r:=za hrs;clear h hC hR I hrs hcs
 go_enter Tryz.func135,Tryz.ntmps135
 go_upto_region 1 with fail
 generalize U0:w.alloc _=o at *;obtain⟨g,Y⟩:=gP U0;clear U0;have Q:=Y.cells;go_wp2_with fail
 go_loopw [7,8] (fun v iv wr=>∃ k:Nat,iv=.int iX k/\k<=nr/\wr.ownsRow o.heap.size 9 1 v k (zO (zaD (zu s p L) cols (rows.take k)))/\Ext o wr) (fun _ iv _=>nr - (intOf iv).toNat)
 case atStart=>exact⟨0,rfl,dH _,World.ownsRow_lit o #[] 0 (dE _) lM rfl,(cY _).alloc _⟩
 case round =>
  obtain⟨k,rfl,H,f,b⟩:=hrel
  by_cases hlt:k<nr
  ·have J:(k:Int)<(nr:Int):=oM;obtain⟨V,y,rfl,_,_,l,G⟩:=(T.out wr (g.trans b)).str hlt;have D:=r.out y (dD l.out);have CY:∀ W,Ext wr W->W.cell? (V.add k)=fV (.string y):=fun W hW=>hW.aa G;have S:=fun W (hW:Ext wr W)=>Q W (b.trans hW);have q:=za (fun W (hW:Ext wr W)=>U.out W ((g.trans b).trans hW) y D);have j:=cY wr;have t:=za (show zO (zaD (zu s p L) cols (rows.take (k+1)))=zO (zaD (zu s p L) cols (rows.take k))++[.string (mkS (zbC (zu s p L) cols y))] by
    rw [dO,l.out,zaD,eI,<- zaD,eH,iQ,strs_snoc])
   generalize mkS (zbC (zu s p L) cols y)=z at *;clear G;go_wp2_with fail
   refine uR (fun X=>Ext wr X) [9] (zx.of [0,1,2,3,4,5,6,7,8,9,10]) ?_;refine uQ ?_;refine ze fun K hK=>?_;go_simp;refine (q.out _ j.drew).mono (mQ fun M u=>?_);have a:Ext wr M:=j.drew.trans u;refine hK.out _ _ a ?_;refine pT ?_;refine uQ ?_;refine ze fun K hK=>?_;go_simp;refine hK.out _ _ (a.alloc _) ?_;refine pT ?_;refine zb fun K hK=>?_;refine zaE o M _ _ _ rfl 9 _ 1 16 Tryz.underlying88 zq rfl dM _ k (zO (zaD (zu s p L) cols (rows.take k))) _ _ rfl rfl (b.trans a).size (zi f a) rfl (zcF _) lM oM ?_;intro g8 cap8 w8 hown8 hg8 hat8 hlt8;refine hK.out _ _ ?_;refine pT ?_;refine uQ ?_;refine zg ?_;go_wp2_with fail
   go_roundw
   case rel=>exact⟨k+1,gM,oM,by rw [t.out];exact hown8,(b.trans a).grown hg8 (fun k H=>(f.lt k H).1)⟩
   case measure=>exact uM
  ·obtain rfl:k=nr:=oM;obtain⟨O,Z,rfl⟩:=zh f;have E:=za (show (rows.take k)=rows from dK (oH F.out));rw [E.out] at f;have i:=za (show (zaD (zu s p L) cols rows).length=k by rw [zaD,dS];exact F.out);go_wp2_with fail
   go_ret;exact⟨O,Z,by rw [i.out];rfl,by rw [i.out];exact zn f g.size,g.trans b⟩
theorem zgS (h:Tch w A n B m B' m' s p L)(hx:x.size<=9223372036854775807) :
  j8 j5 226 #[j4 #[j9 j3,(0:Int),(),(),s.al,s.st,fF A n c,p.al,fF B m d,fF B' m' d',L],x] w fun e w'=>e=j7 (.bool (inB x L&&decide (x.size<=4000)))/\Ext w w':=by
 have g:=za (fun W (hW:Ext w W)=>zba (c:=c) (d:=d) (d':=d') (h.ext hW));have o:=h.lt;have a:Ext w (w.alloc (.cells #[j9 j3,(0:Int),(),(),s.al,s.st,fF A n c,p.al,fF B m d,fF B' m' d',L] 87)):=(cY _).alloc _;have i:=Blk.new w 87 #[j9 j3,(0:Int),(),(),s.al,s.st,fF A n c,p.al,fF B m d,fF B' m' d',L];clear h;cases hin:inB x L
 all_goals
  have b:=za hin;clear hin
  go_enter Tryz.func226,Tryz.ntmps226
  go_upto_region 1 with fail
  generalize w.alloc _=k at *;have l:=i.cells;have j:=cY k;go_wp2_with (first
   |(go_at_call 133;refine (g.out _ a).mono (mQ fun q f=>?_))
   |(go_at_call 146;refine (zbb hx oM).mono ?_;rw [b.out];rintro e r ⟨rfl,rfl⟩))
  go_ret;exact⟨zo (by first|rfl|(rw [Bool.true_and,decide_eq_decide];omega)),a.trans f⟩
end
def zbY (l:Nat):ByteArray:=strOfNums [((97+l:Nat):Int)]
theorem zcj (l:Nat):(zbY l).size=1:=strOfNums_size _
structure zbG (L:Nat) (f:ByteArray->Bool) (rows cols:List ByteArray):Prop where
 r1:1<=rows.length
 r12:rows.length<=12
 c1:1<=cols.length
 c20:cols.length<=20
 r0:rows[0]?=fV ⟨#[]⟩
 c0:cols[0]?=fV ⟨#[]⟩
 rw_:∀ (i:Nat) (x:ByteArray),1<=i->rows[i]?=fV x->inB x L=jV/\∃ y l,l<6/\x=y++zbY l/\y∈rows.take i
 cw:∀ (i:Nat) (x:ByteArray),1<=i->cols[i]?=fV x->inB x L=jV/\x.size<=4000/\x∉cols.take i
 nd:(rows.map (zbC f cols)).Nodup
section
variable {L:Nat} {f:ByteArray->Bool} {rows cols:List ByteArray}
theorem inB_empty (L:Nat):inB ⟨#[]⟩ L=jV:=by unfold inB zgl;rfl
theorem zbG.rsz (h:zbG L f rows cols):∀ (i:Nat) (x:ByteArray),rows[i]?=fV x->x.size<=i:=by
 intro i
 induction i using Nat.strongRecOn with
 |ind i ih =>
  intro x hx;rcases gJ i with rfl|c
  ·rw [h.r0] at hx;obtain rfl:=kA hx;exact dE _
  ·obtain⟨-,y,l,g,rfl,d⟩:=h.rw_ i x c hx;obtain⟨j,b⟩:=eA d;have a:j<i:=by have:=(kB.1 b).1;rw [eW] at this;omega
   rw [jU a] at b;have:=ih j a y b;rw [ByteArray.size_append,zcj l];omega
theorem zbG.rin (h:zbG L f rows cols) (hx:x∈rows):inB x L=jV/\x.size<=12:=by
 obtain⟨i,a⟩:=eA hx;have c:=(kB.1 a).1;refine⟨?_,by have:=h.rsz i x a;have:=h.r12;omega⟩;rcases gJ i with rfl|b
 ·rw [h.r0] at a;obtain rfl:=kA a;exact inB_empty L
 ·exact (h.rw_ i x b a).1
theorem zbG.cin (h:zbG L f rows cols) (hx:x∈cols):inB x L=jV/\x.size<=4000:=by
 obtain⟨i,a⟩:=eA hx;rcases gJ i with rfl|b
 ·rw [h.c0] at a;obtain rfl:=kA a;exact⟨inB_empty L,dM⟩
 ·exact⟨(h.cw i x b a).1,(h.cw i x b a).2.1⟩
theorem rowsM_nodup (h:zbG L f rows cols):(zaD f cols rows).Nodup:=by
 have a:=h.nd;unfold zaD;have b:rows.map (fun x=>mkS (zbC f cols x))=(rows.map (zbC f cols)).map mkS:=by rw [List.map_map];rfl
 rw [b];exact List.pairwise_map.2 (a.imp fun hne e=>hne (zjR e))
end
def TabAt (w:j2) (R:Option Addr) (nr:Nat) (C:Option Addr) (nc:Nat) (rows cols:List ByteArray):Prop:=
 ∃ lo hi lo2 hi2,Reads w lo hi 1 R nr (zO rows)/\Reads w lo2 hi2 1 C nc (zO cols)
theorem TabAt.ext {R:Option Addr} {nr:Nat} (h:TabAt w R nr C nc rows cols)(hx:Ext w W):TabAt W R nr C nc rows cols:=by
 obtain⟨g,f,b,a,c,d⟩:=h;exact⟨g,f,b,a,c.ext hx,d.ext hx⟩
theorem TabAt.nr {R:Option Addr} {nr:Nat} (h:TabAt w R nr C nc rows cols):rows.length=nr/\cols.length=nc:=by
 obtain⟨j,i,g,f,c,d⟩:=h;have a:=c.length;have b:=d.length;rw [zaY] at a b;omega
theorem Reads.takeS (h:Reads w lo hi 1 A n (zO l))(hk:k<=n):Reads w lo hi 1 A k (zO (l.take k)):=by
 have g:=h.length;rw [zaY] at g;refine⟨by rw [zaY,eW];omega,oH h.len,fun h0=>?_⟩;obtain⟨a,e,b,c,d⟩:=h.2.2 oM;refine⟨a,e,b,c,fun j u hu=>d j u ?_⟩;unfold zO at hu ⊢;rw [List.map_take] at hu;have f:j<k:=by have:=(kB.1 hu).1;rw [eW] at this;omega
 rwa [jU f] at hu
theorem str_front (y:ByteArray) (l:Nat):(y++zbY l).extract 0 y.size=y:=by
 rw [ByteArray.extract_append_eq_left rfl]
section
variable {w W:j2} {L nr nc cr cc:Nat} {R C:Option Addr} {rows cols:List ByteArray} {f:ByteArray->Bool}
theorem zka (hT:TabAt w R nr C nc rows cols)(hI:zbG L f rows cols)(hL:L<64)(hcr:nr<=cr)(hcc:nc<=cc) :
  j8 j5 274 #[L,j4 #[fF R nr cr,fF C nc cc]] w fun e w'=>e=j7 (.bool jV)/\Ext w w':=by
 obtain⟨Y,Z⟩:=hT.nr;have z:=hI.r1;have B:=hI.r12;have r:=hI.c1;have s:=hI.c20;rw [Y] at z B;rw [Z] at r s;obtain⟨lo,hi,ar,aj,M,O⟩:=hT;obtain⟨H,x,rfl,_,_,j,d⟩:=M.str (show 0<nr by omega);obtain⟨J,y,rfl,_,_,D,p⟩:=O.str (show 0<nc by omega);obtain rfl:=kA (j.out.symm.trans hI.r0);obtain rfl:=kA (D.out.symm.trans hI.c0);rw [addr_zero] at d p;have U:=za (fun W (hW:Ext w W)=>M.ext hW);have V:=za (fun W (hW:Ext w W)=>O.ext hW);have G:=za hI;have CX:=fun W (hW:Ext w W)=>hW.aa d;have CY:=fun W (hW:Ext w W)=>hW.aa p;clear M O hI j D d p Y Z
 go_enter Tryz.func274,Tryz.ntmps274
 go_upto_region 1 with fail
 generalize U0:w.alloc _=T at *;obtain⟨c,I⟩:=gP U0;clear U0;have k1:=I.cell;have d:=CX _ c;have p:=CY _ c;have b:=cY T;go_wp2_with fail
 go_loopw [7] (fun iv wr=>∃ k:Nat,1<=k/\k<=nr/\iv=.int iX k/\Ext T wr) (fun iv _=>nr - (intOf iv).toNat)
 case atStart=>exact⟨1,dE _,z,rfl,b⟩
 case round =>
  clear b k1 d p;obtain⟨k,i,E,rfl,a⟩:=hrel
  by_cases hlt:k<nr
  ·have u:(k:Int)<(nr:Int):=oM;have Q:(k:Int)<=(cr:Int):=oM;obtain⟨ah,x,e,_,_,j,d⟩:=(U.out wr (c.trans a)).str hlt;obtain rfl:=kA e;obtain⟨g,y,l,hl,o,D⟩:=G.out.rw_ k x i j.out;have S:x.size=y.size+1:=by rw [o,ByteArray.size_append,zcj]
   have an:x.extract 0 y.size=y:=by rw [o,str_front]
   have h0:0<x.size:=oM;have ao:y.size<=12:=by have:=G.out.rsz k x j.out;omega
   have h:=za (zau.2 D);have m:=za (fun W (hW:Ext w W)=>(U.out W hW).takeS E);have n:=za g;have F:∀ W,Ext wr W->W.cell? (H.add k)=fV (.string x):=fun W hW=>hW.aa d;have CB:∀ W,Ext wr W->∀ q,W.cell? ⟨w.heap.size,q,fW⟩=#[fF (fV H) nr cr,fF (fV J) nc cc][q]?:=fun W hW=>(I.ext (a.trans hW)).cell;have b:=cY wr;have am:IntKind.i64.wrap (y.size:Int)=(y.size:Int):=IntWalk.i64_in _ oM;have al:((y.size:Int)+1==0)=j3:=by simp;omega
   have ap:(y.size:Int)<=(y.size:Int)+1:=oM;clear g D o d j hl e;go_wp2_with fail
   refine uR (fun X=>Ext wr X) [] (zx.of [0,1,2,3,4,5,6,7,8,9,10,11,12,13,14,15,16,17,18,19,20,21]) ?_;refine uQ ?_;refine ze fun K hK=>?_;go_simp;refine (zbb oM oM).mono ?_;rw [n.out];rintro e w3 ⟨rfl,rfl⟩;refine hK.out _ _ b.drew ?_;refine pT ?_;refine uQ ?_;refine ze fun K hK=>?_;go_simp;refine (zdY (m.out _ (c.trans (a.trans b.drew)))).mono ?_;rw [h.out];rintro e w4 ⟨rfl,rfl⟩;refine hK.out _ _ b.drew ?_;refine pT ?_;refine uQ ?_;refine zg ?_;go_wp2_with fail
   go_roundw
   case rel=>exact⟨k+1,oM,oM,gM,a.trans b.drew⟩
   case measure=>exact uM
  ·have t:(nr:Int)<=(k:Int):=oM;go_wp2_with fail
   go_loopw [9] (fun iv wr=>∃ k:Nat,1<=k/\k<=nc/\iv=.int iX k/\Ext T wr) (fun iv _=>nc - (intOf iv).toNat)
   case atStart=>exact⟨1,dE _,r,rfl,a⟩
   case round =>
    clear a t hlt E i;obtain⟨k,i,E,rfl,a⟩:=hrel
    by_cases hlt:k<nc
    ·have u:(k:Int)<(nc:Int):=oM;have Q:(k:Int)<=(cc:Int):=oM;obtain⟨ai,x,e,_,_,j,d⟩:=(V.out wr (c.trans a)).str hlt;obtain rfl:=kA e;obtain⟨g,S,v⟩:=G.out.cw k x i j.out;have aa:¬ (4000<(x.size:Int)):=oM;have h:=za (zbZ.2 v);have m:=za (fun W (hW:Ext w W)=>(V.out W hW).takeS E);have n:=za g;have F:∀ W,Ext wr W->W.cell? (J.add k)=fV (.string x):=fun W hW=>hW.aa d;have CB:∀ W,Ext wr W->∀ q,W.cell? ⟨w.heap.size,q,fW⟩=#[fF (fV H) nr cr,fF (fV J) nc cc][q]?:=fun W hW=>(I.ext (a.trans hW)).cell;have b:=cY wr;clear g v d j e;go_wp2_with (first
      |(go_at_call 146;refine (zbb oM oM).mono ?_;rw [n.out];rintro e w3 ⟨rfl,rfl⟩)
      |(go_at_call 228;refine (zdY (m.out _ (c.trans a))).mono ?_;rw [h.out];rintro e w3 ⟨rfl,rfl⟩))
     go_roundw
     case rel=>exact⟨k+1,oM,oM,gM,a⟩
     case measure=>exact uM
    ·have t:(nc:Int)<=(k:Int):=oM;go_wp2_with fail
     go_ret;exact⟨rfl,c.trans a⟩
end
theorem zbG.rsz' (h:zbG L f rows cols):(∀ y∈rows,y.size<=1000000)/\∀ y∈cols,y.size<=1000000:=
 ⟨fun y hy=>by have:=(h.rin hy).2;omega,fun y hy=>by have:=(h.cin hy).2;omega⟩
section
variable {w W:j2} {n c m d m' d' L:Nat} {A B B':Option Addr} {s:Sys} {p:Aut} {nr nc cr cc:Nat} {R C:Option Addr} {rows cols:List ByteArray}
theorem zcn (h:Tch w A n B m B' m' s p L)(hT:TabAt w R nr C nc rows cols)(hI:zbG L (zu s p L) rows cols)(hcr:nr<=cr)(hcc:nc<=cc) :
  j8 j5 211 #[j4 #[j9 j3,(0:Int),(),(),s.al,s.st,fF A n c,p.al,fF B m d,fF B' m' d',L],j4 #[fF R nr cr,fF C nc cc]] w fun e w'=>e=j7 (.bool jV)/\Ext w w':=by
 obtain⟨M,Y⟩:=hT.nr;have z:=hI.r12;have v:=hI.c20;rw [M] at z;rw [Y] at v;have HA:=za (fun W (hW:Ext w W)=>zba (c:=c) (d:=d) (d':=d') (h.ext hW));have HS:=za (fun W (hW:Ext w W)=>zka (cr:=cr) (cc:=cc) (hT.ext hW) hI h.lt hcr hcc);obtain⟨lo,hi,aw,aq,Z,h2⟩:=hT;have HR:=za (fun W (hW:Ext w W)=>zeM (c:=c) (d:=d) (d':=d') (cc:=cc) (cr:=cr) (h.ext hW) (h2.ext hW) (Z.ext hW) oM oM hI.rsz'.2 hI.rsz'.1);have S:=za (rowsM_nodup hI);have l:(zaD (zu s p L) cols rows).length=nr:=by rw [zaD,dS];exact M
 generalize zaD (zu s p L) cols rows=zs at *;clear h Z h2 hI M Y
 go_enter Tryz.func211,Tryz.ntmps211
 go_upto_region 1 with fail
 generalize U0:(w.alloc _).alloc _=T at *;obtain⟨o,b1,b2⟩:=Ext.x2_ U0;clear U0;have CB:=b1.cells;have CT:=b2.cells;have f:=cY T;refine uR (fun X=>Ext T X) [] (zx.of [0,2,1,3,4]) ?_;refine uQ ?_;refine ze fun K hK=>?_;go_simp;refine (HA.out _ (o.trans f.drew)).mono (mQ fun w2 F=>?_);have a:Ext T w2:=f.drew.trans F;refine hK.out _ _ a ?_;refine pT ?_;refine uQ ?_;refine ze fun K hK=>?_;go_simp;refine (HS.out _ (o.trans a)).mono (mQ fun w3 H=>?_);have b:=a.trans H;refine hK.out _ _ b ?_;refine pT ?_;refine uQ ?_;refine zg ?_;clear a F H;go_wp2_with (first|(go_at_call 135;refine (HR.out _ (o.trans b)).mono ?_;rintro e U ⟨G,g,rfl,r,I⟩))
 rw [l] at r;have t:=za l;clear l;have E:=b.trans I;have D:=eF r;have u:=za (fun W (hW:Ext U W)=>D.ext hW);have av:nr<=g:=by
  rcases r.2 with ⟨e,h0⟩|⟨g0,an,ao,e,_,_,ab,_⟩
  ·omega
  ·injection e with _ _ h3;omega
 clear b I r D
 go_loopw [6] (fun iv wr=>∃ k:Nat,k<=nr/\iv=.int iX k/\Ext U wr) (fun iv _=>nr - (intOf iv).toNat)
 case atStart=>exact⟨0,dH _,rfl,cY _⟩
 case round =>
  obtain⟨k,hk,rfl,q⟩:=hrel
  by_cases hlt:k<nr
  ·have ae:(k:Int)<(nr:Int):=oM;have au:(k:Int)<=(g:Int):=oM;obtain⟨ad,x,rfl,_,_,hx,V⟩:=(u.out wr q).str hlt;have y:=za (show zcT (zs.take k) x=j3 by
    rw [zbZ];intro hm;obtain⟨j,O⟩:=eA hm;have Q:j<k:=by have:=(kB.1 O).1;rw [eW] at this;omega
    rw [jU Q] at O;have:=(List.getElem?_inj (i:=j) (j:=k) (oH t.out) S.out).1 (O.trans hx.out.symm);omega)
   have J:=za (fun W (hW:Ext U W)=>(u.out W hW).takeS hk);have CX:∀ W,Ext wr W->W.cell? (ad.add k)=fV (.string x):=fun W hW=>hW.aa V;have f:=cY wr;clear V hx;go_wp2_with fail
   refine uR (fun X=>Ext wr X) [] (zx.of [0,1,2,3,4,5,6,7]) ?_;refine uQ ?_;refine ze fun K hK=>?_;go_simp;refine (zdY (J.out _ (q.trans f.drew))).mono ?_;rw [y.out];rintro e w5 ⟨rfl,rfl⟩;refine hK.out _ _ f.drew ?_;refine pT ?_;refine uQ ?_;refine zg ?_;go_wp2_with fail
   go_roundw
   case rel=>exact⟨k+1,oM,gM,q.trans f.drew⟩
   case measure=>exact uM
  ·have ap:(nr:Int)<=(k:Int):=oM;go_wp2_with fail
   go_ret;exact⟨rfl,o.trans (E.trans q)⟩
def candL (L:Nat) (rows:List ByteArray):List ByteArray:=rows.flatMap fun r=>(letters L 6).map fun l=>r++zbY l
noncomputable def zaH (L:Nat) (f:ByteArray->Bool) (rows cols:List ByteArray):Option ByteArray:=(candL L rows).find? fun x=>!zcT (zaD f cols rows) (mkS (zbC f cols x))
theorem find_pre {α:Type} {P:α->Bool} {pre post l:List α} {x:α}(hl:l=pre++x :: post)(hp:∀ y∈pre,P y=j3)(hx:P x=jV):l.find? P=fV x:=by
 rw [hl,List.find?_append,List.find?_eq_none.2 (fun y hy=>by rw [hp y hy];decide),Option.none_or,List.find?_cons_of_pos hx]
theorem open_find {zs:List ByteArray} {ls:List Nat}  {i l:Nat} (hx:rows[i]?=fV x)(hl:ls[k]?=fV l)(hy:x++zbY l=y)
  (hd:∀ y∈(rows.take i).flatMap (fun r=>ls.map fun l=>r++zbY l),zcT zs (mkS (zbC f cols y))=jV) (hdk:∀ y∈(ls.take k).map (fun l=>x++zbY l),zcT zs (mkS (zbC f cols y))=jV) (hm:zcT zs (mkS (zbC f cols y))=j3) :
  (rows.flatMap fun r=>ls.map fun l=>r++zbY l).find? (fun x=>!zcT zs (mkS (zbC f cols x)))=fV y:=by
 have g:rows=rows.take i++x :: rows.drop (i+1):=by
  obtain⟨b,c⟩:=kB.1 hx;rw [<- c,<- fM b,jI]
 have d:ls=ls.take k++l :: ls.drop (k+1):=by
  obtain⟨b,c⟩:=kB.1 hl;rw [<- c,<- fM b,jI]
 have e:ls.map (fun l=>x++zbY l)=(ls.take k).map (fun l=>x++zbY l)++y :: (ls.drop (k+1)).map (fun l=>x++zbY l):=by
  conv=>lhs;rw [d]
  rw [eI,fL,hy]
 refine find_pre (pre:=(rows.take i).flatMap (fun r=>ls.map fun l=>r++zbY l)++(ls.take k).map (fun l=>x++zbY l)) (post:=(ls.drop (k+1)).map (fun l=>x++zbY l)++(rows.drop (i+1)).flatMap (fun r=>ls.map fun l=>r++zbY l)) ?_ ?_ ?_
 ·conv=>lhs;rw [g]
  rw [jT,List.flatMap_cons,e];simp only [iD,List.cons_append]
 ·intro y' hy';show (!zcT zs (mkS (zbC f cols y')))=j3;rcases kF.1 hy' with a|a
  ·rw [hd y' a,Bool.not_true]
  ·rw [hdk y' a,Bool.not_true]
 ·show (!zcT zs (mkS (zbC f cols y)))=jV;rw [hm,Bool.not_false]
theorem zeN {l:Nat}(h1:l<6):j8 j5 138 #[l] w fun e w'=>e=j7 (.string (zbY l))/\Ext w w':=zfr h1
theorem zgR (h:Tch w A n B m B' m' s p L)(hT:TabAt w R nr C nc rows cols)(hI:zbG L (zu s p L) rows cols) :
  j8 j5 212 #[j4 #[j9 j3,(0:Int),(),(),s.al,s.st,fF A n c,p.al,fF B m d,fF B' m' d',L],j4 #[fF R nr cr,fF C nc cc]] w fun e w'=>e=j7 (.tuple #[.string ((zaH L (zu s p L) rows cols).getD ⟨#[]⟩),j9 (zaH L (zu s p L) rows cols).isSome])/\Ext w w':=by
 obtain⟨e1,e2⟩:=hT.nr;have ah:=hI.r12;have af:=hI.c20;rw [e1] at ah;rw [e2] at af;have HA:=za (fun W (hW:Ext w W)=>zba (c:=c) (d:=d) (d':=d') (h.ext hW));obtain⟨lo,hi,bd,a7,v,h2⟩:=hT;have HR:=za (fun W (hW:Ext w W)=>zeM (c:=c) (d:=d) (d':=d') (cc:=cc) (cr:=cr) (h.ext hW) (h2.ext hW) (v.ext hW) oM oM hI.rsz'.2 hI.rsz'.1);have HW:=za (fun W (hW:Ext w W) (y:ByteArray) D=>zfL (c:=c) (d:=d) (d':=d') (cc:=cc) (x:=y) (h.ext hW) (h2.ext hW) oM D hI.rsz'.2);have H1:=za (fun W (hW:Ext w W)=>v.ext hW);have hL:=h.lt;have ar:=za (fun x V=>hI.rin (x:=x) V);have M:(zaD (zu s p L) cols rows).length=nr:=by rw [zaD,dS];exact e1
 have ag:zaH L (zu s p L) rows cols=(candL L rows).find? fun x=>!zcT (zaD (zu s p L) cols rows) (mkS (zbC (zu s p L) cols x)):=rfl;generalize zaH L (zu s p L) rows cols=op at *;generalize zaD (zu s p L) cols rows=zs at *;have ae:=za ag;have aI:=za M;have He:=za e1;clear h v h2 hI e1 e2 ag M
 go_enter Tryz.func212,Tryz.ntmps212
 go_upto_region 1 with fail
 generalize U0:(w.alloc _).alloc _=w1 at *;obtain⟨u,b1,b2⟩:=Ext.x2_ U0;clear U0;have CB:=b1.cells;have CT:=b2.cells;have j:=cY w1;go_wp2_with (first
  |(go_at_call 133;refine (HA.out _ u).mono (mQ fun w2 ai=>?_))
  |(go_at_call 134;refine (zak L tM _).mono ?_;rintro e w3 ⟨HL,hc,rfl,H,aj⟩;have I:=ai.trans aj)
  |(go_at_call 135;refine (HR.out _ (u.trans I)).mono ?_;rintro e w4 ⟨G,g,rfl,F,X⟩;have b:=I.trans X))
 have O:=eF F;have HG:=za (fun W (hW:Ext w4 W)=>O.ext hW);have t:=zi H X;have aa:=za (fun W (hW:Ext w4 W)=>zi t hW);have az:=za (fun l (Z:l∈letters L 6)=>(zC.1 Z).1);have E:=za (show candL L rows=rows.flatMap fun r=>(letters L 6).map fun l=>r++zbY l from rfl);have a8:(letters L 6).length<=6:=zA L 6;generalize letters L 6=S at *;clear H t O F ai aj I X j;have j:=cY w4
 go_loopw [8] (fun iv wr=>∃ i:Nat,i<=nr/\iv=.int iX i/\Hid (∀ x∈(rows.take i).flatMap (fun r=>S.map fun l=>r++zbY l),zcT zs (mkS (zbC (zu s p L) cols x))=jV)/\Ext w4 wr) (fun iv _=>nr - (intOf iv).toNat)
 case atStart=>exact⟨0,dH _,rfl,za (fun x V=>by simp at V),j⟩
 case round =>
  clear j;obtain⟨i,hi,rfl,o,f⟩:=hrel;have ap:=fun W (hW:Ext wr W)=>CT W (b.trans (f.trans hW));have j:=cY wr
  by_cases hlt:i<nr
  ·have aN:(i:Int)<(nr:Int):=oM;obtain⟨ad,x,rfl,_,_,V,cx⟩:=(H1.out wr (u.trans (b.trans f))).str hlt;have CX:∀ W,Ext wr W->W.cell? (ad.add i)=fV (.string x):=fun W hW=>hW.aa cx;have bb:=(ar.out x (dD V.out)).2;have ak:=za V.out;clear cx V;go_wp2_with fail
   obtain⟨wo,aB⟩:∃ wo,wo=wr:=⟨_,rfl⟩;subst aB
   go_loopw [9] (fun kv wr=>∃ k:Nat,k<=S.length/\kv=.int iX k/\Hid (∀ y∈(S.take k).map (fun l=>x++zbY l),zcT zs (mkS (zbC (zu s p L) cols y))=jV)/\Ext wo wr) (fun kv _=>S.length - (intOf kv).toNat)
   case atStart=>exact⟨0,dH _,rfl,za (fun y D=>by simp at D),j⟩
   case round =>
    clear j;obtain⟨k,hk,rfl,T,a⟩:=hrel
    by_cases hkl:k<S.length
    ·have aL:(k:Int)<(S.length:Int):=oM;obtain⟨l,Z⟩:∃ l,S[k]?=fV l:=⟨_,dC hkl⟩;have ay:=az.out l (dD Z);have Y:=aa.out wr (f.trans a);obtain⟨gl,rfl,a5,-⟩:=zN Y oM;have cl:=zcy Y hkl;rw [List.getD_eq_getElem?_getD,Z,Option.getD_some] at cl;have CL:∀ W,Ext wr W->W.cell? ⟨gl,k,fW⟩=fV (.int iX (l:Nat)):=fun W hW=>hW.aa cl;have aU:=fun W (hW:Ext wr W)=>CX W (a.trans hW);have aS:=fun W (hW:Ext wr W)=>ap W (a.trans hW);have aQ:∀ W,Ext wr W->∀ q,W.cell? ⟨w.heap.size,q,fW⟩=#[j9 j3,.int iX 0,fF fW 0 0,fF fW 0 0,.int iX s.al,.int iX s.st,fF A n c,.int iX p.al,fF B m d,fF B' m' d',.int iX L][q]?:=fun W hW=>CB W ((b.trans (f.trans a)).trans hW);have HT:=za (fun W=>zeN (w:=W) ay);have Hl:=za Z;obtain⟨z,hz⟩:∃ z,Hid (zbY l=z):=⟨_,rfl⟩;rw [hz.out] at HT;have bc:z.size=1:=by rw [<- hz.out];exact zcj l
     have a9:¬ 9223372036854775807<x.size+1:=oM;have ab:=za (fun W (hW:Ext wr W)=>HW.out W ((u.trans (b.trans (f.trans a))).trans hW) (x++z) (by rw [ByteArray.size_append];omega));have aq:=za (fun W (hW:Ext wr W)=>HG.out W ((f.trans a).trans hW));have j:=cY wr;obtain⟨y,D⟩:∃ y,x++z=y:=⟨_,rfl⟩;rw [D] at ab;have am:Hid (x++zbY l=y):=by unfold Hid;rw [hz.out];exact D
     clear Z cl Y;go_wp2_with fail
     go_region_held3 (fun W=>Ext wr W) (first|assumption|(refine fC ?_;assumption)|(refine eO ?_ aM;assumption)|(refine eO ?_ aM;refine fC ?_;assumption)) (first
      |(go_at_call 138;refine (HT.out _).mono (mQ fun w7 ba=>?_)))
     have Q:Ext wr w7:=aM;clear D;cases hm:zcT zs (mkS (zbC (zu s p L) cols y))
     all_goals
      have Hm:=za hm;clear hm;go_wp2_with (first
       |(go_at_call 137;refine (ab.out _ Q).mono (mQ fun w8 aC=>?_);have J:=Q.trans aC)
       |(go_at_call 228;with_reducible refine (zdY (aq.out _ J)).mono ?_;rw [Hm.out];rintro e w9 ⟨rfl,rfl⟩))
     ·have U:=za (show op=fV y by
       rw [ae.out,E.out];exact open_find ak.out Hl.out am.out o.out T.out Hm.out)
      go_ret2;exact⟨by rw [U.out];rfl,u.trans (b.trans (f.trans (a.trans J)))⟩
     ·go_roundw
      case rel=>exact⟨k+1,oM,gM,za (fun y' hy'=>by
       rw [dO,Hl.out,eI] at hy';rcases kF.1 hy' with v|v
       ·exact T.out y' v
       ·simp at v;rw [v,am.out];exact Hm.out),a.trans J⟩
      case measure=>exact uM
    ·have ax:(S.length:Int)<=(k:Int):=oM;go_wp2_with fail
     go_roundw
     case rel=>exact⟨i+1,oM,gM,za (fun y D=>by
      rw [dO,ak.out,jT] at D;rcases kF.1 D with v|v
      ·exact o.out y v
      ·refine T.out y ?_;rw [dK oM];simpa using v),f.trans a⟩
     case measure=>exact uM
  ·have ax:(nr:Int)<=(i:Int):=oM;have aA:=za (show op=fW by
    rw [ae.out,E.out,List.find?_eq_none];intro y D;have:=o.out y (by rw [dK (oH He.out)];exact D);rw [this];decide)
   go_wp2_with fail
   go_ret2;exact⟨by rw [aA.out];rfl,u.trans (b.trans f)⟩
end
end Go.Proofs.YtckbjnndaaoddaaGreatDoor
