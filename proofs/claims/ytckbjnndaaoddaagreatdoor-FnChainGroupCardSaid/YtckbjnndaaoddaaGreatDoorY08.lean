/- spec.l2Rando -/
import Derived.Test.YtckbjnndaaoddaaGreatDoorY07
import Derived.Laws.Strings
import Derived.WideKeyArr
set_option maxHeartbeats 4000000
set_option maxRecDepth 100000
namespace Go.Proofs.YtckbjnndaaoddaaGreatDoor
open Go Go.RowKit
open Ext renaming drew->gG,refl->dE,trans->fI,x1_->iK
open List renaming append_assoc->iZ,drop_eq_getElem_cons->gV,flatMap_append->jT,getElem?_eq_getElem->dH,getElem?_of_mem->eU,getElem?_take_of_lt->jR,length_map->eT,length_take->fL,map_append->fO,map_cons->gZ,mem_of_getElem?->dG,take_add_one->eG,take_append_drop->j5,take_of_length_le->eF
open Nat renaming eq_zero_or_pos->iL,le_add_right->kF,le_refl->dI,le_trans->eI,zero_le->eC
open Option renaming toList_some->e8
open Reads renaming af->eW
variable {A C:Option Addr} {L M R c cc hi k lo n nc p:Nat} {T:List Nat} {W w:World} {cols l rows:List ByteArray} {e:Edg} {es:List Edg} {f:ByteArray->Bool} {s:Sys} {t x y:ByteArray}
theorem zhd (h:Few p es)(he:(0<=e.fr∧e.fr<p)∧(0<=e.le∧e.le<6)∧(0<=e.ta∧e.ta<p)):Few p (es++[e]):=fun x hx=>by
 rcases List.mem_append.1 hx with h1|h1
 ·exact h x h1
 ·rw [List.mem_singleton.1 h1];exact he
theorem few_nil (p:Nat):Few p []:=fun x hx=>by cases hx
theorem zjT {a:Nat} {few:Int} (h:Rd w R M)(hM:M<=900000000)(ha:a<64)(hp1:1<=p)(hp:p<=16) :
  Calls Tryz.prog 207 #[.pointer (some R),a,p,few] w (RetG R (M+20000) 20000 w):=by
 have U:Sm a:=tM;have L:=h.lt
 go_enter Tryz.func207,Tryz.ntmps207
 go_wp2_with fail
 refine (zah a U _).mono ?_;rintro e t ⟨B,d,rfl,G,z⟩;obtain⟨Y,V⟩:=zJ z;have r:=(((dE w).alloc _).alloc _).trans z;have ar:=zA a 6;have F:=za (fun k (hk:k∈letters a 6)=>(zef.1 hk).1);have s:=(eW G).more (lo':=w.heap.size+2) (hi':=t.heap.size) sM (dI _);have b:Acc w t t R (w.heap.size+1) M a p (.slice none 0 0) []:=⟨V,World.ownsRow_nil _ _ _ _,h.ext r,r.dr,Frm.refl _ _,L,r.size,oM⟩;have u:Blk t w.heap.size 38 #[.int .i64 0,.int .i64 0,.slice none 0 0]:=Y;clear G V z Y;generalize letters a 6=C at *;have av:=r.size;go_wp2_with fail
 go_loopw [11] (fun i wr=>∃ k:Nat,k<=p∧i=.int .i64 k∧∃ (v:Value) (m:List Edg),Acc w t wr R (w.heap.size+1) (M+k*1000) a p v m∧m.length<=k*1000∧Hid (Few p m)) (fun i _=>p - (intOf i).toNat)
 case atStart=>exact⟨0,eC _,rfl,_,[],b.more (kF _ _),eC _,few_nil p⟩
 case round =>
  clear b;obtain⟨k,hk,rfl,v,m,b,q,f⟩:=hrel
  by_cases hlt:k<p
  ·go_wp2_with fail
   go_loopw [12] (fun i wr=>∃ j:Nat,j<=C.length∧i=.int .i64 j∧∃ (v:Value) (m:List Edg),Acc w t wr R (w.heap.size+1) (M+k*1000+j*100) a p v m∧m.length<=k*1000+j*100∧Hid (Few p m)) (fun i _=>C.length - (intOf i).toNat)
   case atStart=>exact⟨0,eC _,rfl,v,m,b.more (kF _ _),eI q (kF _ _),f⟩
   case round =>
    clear b q f;obtain⟨j,hj,rfl,v,m,b,q,f⟩:=hrel
    by_cases hlj:j<C.length
    ·go_wp2_with fail
     go_loopw [13] (fun i wr=>∃ x:Nat,x<=p∧i=.int .i64 x∧∃ (v:Value) (m:List Edg),Acc w t wr R (w.heap.size+1) (M+k*1000+j*100+x) a p v m∧m.length<=k*1000+j*100+x∧Hid (Few p m)) (fun i _=>p - (intOf i).toNat)
     case atStart=>exact⟨0,eC _,rfl,v,m,b.more (kF _ _),eI q (kF _ _),f⟩
     case round =>
      clear b q f;obtain⟨x,hx,rfl,v,m,b,q,f⟩:=hrel
      by_cases hlx:x<p
      ·go_wp2_with fail
       refine (zH b.rd oM).mono ?_;rintro e H ⟨y,rfl,_,_,T,Q⟩;have o:=b.drawn Q T;obtain⟨ad,l,rfl,_,O,hl,S⟩:=(o.old s oM).nat hlj;have ah:=F.out l (dG hl.out)
       by_cases hy:y=0
       ·subst hy;have cG:=fun W (hW:Ext H W)=>(o.blk.ext hW).cell;have cL:∀ W,Ext H W->W.cell? (ad.add j)=some (.int .i64 (l:Nat)):=fun W hW=>hW.aa S;have ao:(0:Int)<=(j:Int):=oM;have ap:(j:Int)<(C.length:Int):=oM;go_wp2_with fail
        refine tR (fun X=>Ext H X) [10,12] (Ord.of [0,1,2,3,4,5,6,7,8,9,10,11,12]) ?_;refine tQ ?_;refine zI fun K hK=>?_;go_simp;refine hK.out _ _ ((dE _).drew.alloc _) ?_;refine pT ?_;refine zab fun K hK=>?_;refine zaH t H.drew _ _ _ rfl 117 _ 3 24 Tryz.underlying36 zaV rfl dM v m.length (zn m) _ _ rfl rfl o.fr.size o.own rfl (by simp [Value.oneCell']) lM oM ?_;intro g cap w3 zkq hg3 hat3 hlt3;refine hK.out _ _ ?_;refine pT ?_;refine tQ ?_;obtain⟨h1,h2,h3⟩:=(o.ext ((dE _).drew)).push (e:=⟨k,l,x⟩) (W':=w3) zkq hg3 hat3;have am:=h1.out;refine zab fun K hK=>?_;go_simp;refine hK.out _ _ ?_;refine zaD ?_;go_wp2_with fail
        go_roundw
        case rel=>exact⟨x+1,oM,gM,_,_,h3.more oM,by simp;omega,zhd f.out (by simp;omega)⟩
        case measure=>simp [intOf];omega
       ·have au:((y:Int)==0)=false:=by simp;omega
        go_wp2_with fail
        go_roundw
        case rel=>exact⟨x+1,oM,gM,v,m,o.more oM,oM,f⟩
        case measure=>simp [intOf];omega
      ·obtain rfl:p=x:=oM;have I:m.length<=k*1000+(j+1)*100:=oM;have J:M+k*1000+j*100+p<=M+k*1000+(j+1)*100:=oM;go_wp2_with fail
       go_roundw
       case rel=>exact⟨j+1,oM,gM,v,m,b.more J,I,f⟩
       case measure=>simp [intOf];omega
    ·obtain rfl:j=C.length:=oM;have I:m.length<=(k+1)*1000:=oM;have J:M+k*1000+C.length*100<=M+(k+1)*1000:=oM;go_wp2_with fail
     go_roundw
     case rel=>exact⟨k+1,oM,gM,v,m,b.more J,I,f⟩
     case measure=>simp [intOf];omega
  ·obtain rfl:p=k:=oM;obtain⟨A,n,c,rfl⟩:=b.form;obtain⟨rfl,_⟩:=b.reads;have af:=zjJ b.own;have cG:=b.blk.cell;have E:=u.frm b.fr oM;have cz:=E.cell;have aw:=u.lt;have fz:=E.frozen;obtain⟨f1,f2,f3⟩:=b.fin (Z:=w.heap.size) (dI _) oM (.int .i64 a) (.int .i64 p) (.slice A m.length c);have D:=za (show RetG R (M+20000) 20000 w (.returned (.agg #[a,p,.slice A m.length c])) _ from ⟨⟨a,p,m⟩,A,m.length,c,rfl,f1,⟨a,p,rfl,ha,rfl,hp1,hp,f.out⟩,oM,f2.more oM,f3⟩);clear u s F f1 f2 f3;go_wp2_with fail
   exact bodyPost_ret (v:=.agg #[a,p,.slice A m.length c]) (by simp [results,Tryz.results207,go_sem,cz]) rfl D.out
theorem zeS {P:Program} (wb w:World) {ops:Array Oper} {rest:List Oper} {o:Oper} {a:Act} {Q:Exit->Act->World->Prop}(hgd:o.guard=none) (s x:Operand) (t:TypeId)
  (ho:o.op=.call { callee:=.builtin .append,args:=#[s,x],argTypes:=#[t,t] })
  (e:TypeId) (z:Value) (size bytes:Nat) (ht:P.underlying t=some (.slice e)) (hi:(P.info? e).map (fun i=>(i.zero,i.size,i.bytes))=some (some z,size,bytes)) (hzs:z.cells.size=size) (hsz:0<size)
  (v:Value) (n:Nat) (xs:List Value) (us:Array Value) (e':TypeId) (hs:a.eval s=v) (hx:a.eval x=.slice (some w.heap.size) 1 1)
  (zkh:wb.heap.size<=w.heap.size) (zkf:w.ownsRow wb.heap.size e size v n xs) (hus:us.size=size) (h1:∀ u∈us.toList,u.oneCell'=true)
  (h63:n+1<=maxLen) (hbytes:(n+1)*bytes<=140737488355328)
  (h:∀ g cap w',w'.ownsRow wb.heap.size e size (.slice (some ⟨g,0,none⟩) (n+1) cap) (n+1) (xs++us.toList)->w.grownBy w' v.ownBlock->(v.ownBlock=some g∨g=w.heap.size+1)->g<w'.heap.size->wpList P ops Q rest (a.put o.dst (.slice (some ⟨g,0,none⟩) (n+1) cap)) w') :
  wpList P ops Q (o :: rest) a (w.alloc (.cells us e')):=
 wpList_plain hgd fun _ hK=>zaH wb w s x t ho e z size bytes ht hi hzs hsz v n xs us e' hs hx zkh zkf hus h1 h63 hbytes fun g cap w' h2 h3 h4 h5=>hK _ _ (h g cap w' h2 h3 h4 h5)
theorem Reads.str (h:Reads w lo hi 1 A n (zM l))(hk:k<n):∃ ad x,A=some ad∧lo<=ad.block∧ad.block<hi∧Hid (l[k]?=some x)∧w.cell? (ad.add k)=some (.string x):=by
 obtain⟨ad,u,e,a,b,d,c⟩:=h.one hk;have:=d.out;simp only [zM,List.getElem?_map,Option.map_eq_some_iff] at this;obtain⟨x,f,rfl⟩:=this;exact⟨ad,x,e,a,b,f,c⟩
theorem valid_good (h:zk s=true):Good s:=by
 obtain⟨p,i,c,d,g⟩:=zcE h;obtain⟨a,f,b⟩:=valid_al h;exact⟨a,p,f,b,i,c,d,g⟩
theorem Acc.fillRD {w0 wB:World} {G Z:Nat} {al st:Int} {v:Value} (h:Acc w0 wB W R G M al st v es)(hZ:w0.heap.size<=Z) (u0 u1 u2:Value) :
  Rd (((W.setCell Z u0).setCell ⟨Z,1,none⟩ u1).setCell ⟨Z,2,none⟩ u2) R M∧Dr R w0 (((W.setCell Z u0).setCell ⟨Z,1,none⟩ u1).setCell ⟨Z,2,none⟩ u2):=
 ⟨h.rd.frm (zdm W Z u0 u1 u2) (fun k h1 h2=>oH h.hR),((h.dr.ag (p:=⟨Z,0,none⟩) hZ u0).ag (p:=⟨Z,1,none⟩) hZ u1).ag (p:=⟨Z,2,none⟩) hZ u2⟩
theorem str_empty (h:t.toList=x.toList)(h0:t.size=0):x.size=0:=by
 have a:=congrArg List.length h;rw [ByteArray.toList_eq,ByteArray.toList_eq] at a;have b:t.data.toList.length=t.size:=rfl;have c:x.data.toList.length=x.size:=rfl;omega
def Fair (s:Sys):Prop:=∃ a p:Nat,s.al=a∧a<64∧s.st=p∧p<=16∧Few (p+1) s.edges
theorem Good.fair (h:Good s):Fair s:=by
 obtain⟨a,p,b,c,d,_,f,g⟩:=h;exact⟨a,p,b,c,d,f,fun e he=>by have:=g e he;omega⟩
theorem fair_zero:Fair ⟨0,0,[]⟩:=⟨0,0,rfl,oM,rfl,oM,fun e he=>by cases he⟩
def zjg (R M L:Nat) (w:World) (e:Ending) (w':World):Prop:=
 ∃ (s:Sys) (A:Option Addr) (n c:Nat) (ok:Bool),e=.returned (.tuple #[.agg #[s.al,s.st,.slice A n c],.bool ok])∧zcy w' R A n s∧((ok=true->Good s)∧Fair s)∧(n<=L∧n<=c)∧Rd w' R M∧Dr R w w'
theorem zhl {w':World}(h:Rd w' R M)(hd:Dr R w w'):zjg R M L w (.returned (.tuple #[.agg #[(0:Int),(0:Int),()],.bool false])) w':=
 ⟨⟨0,0,[]⟩,none,0,0,false,rfl,⟨rfl,oM,fun h0=>oM⟩,⟨(fun h=>by cases h),fair_zero⟩,⟨eC _,dI _⟩,h,hd⟩
theorem yY08a1 {P:Prop}(h:P:=by
 obtain⟨g1,g2⟩:=hacc4.fillRD (Z:=w.heap.size) (Nat.le_refl _) (.int .i64 0) (.int .i64 0) (.slice none 0 0);exact bodyPost_ret (v:=.tuple #[.agg #[(0:Int),(0:Int),()],.bool false]) (by simp [results,Tryz.results181,go_sem,hz4]) rfl (zhl g1 g2)
 ):P:=h
theorem yY08a2 {P:Prop}(h:P:=by
 go_wp2_with fail
 exact bodyPost_ret (v:=.tuple #[.agg #[(0:Int),(0:Int),()],.bool false]) (by simp [results,Tryz.results181,go_sem,cz2]) rfl Hnone.out
 ):P:=h
theorem zgU (h:Rd w R M)(hx:x.size<=1000) :
  Calls Tryz.prog 181 #[x] w (zjg R M 1001 w):=by
 have aq:=h.lt
 go_enter Tryz.func181,Tryz.ntmps181
 go_wp2_with fail
 refine (spec_l19Cut (s:=x) oM).mono ?_;rintro e w1 ⟨B,m,d,l,rfl,ag,ak,af,hm,C⟩;have E:=zcv C;have a6:=E.lt;have G:=((dE w).alloc _).trans C;have V:=(eW ak).more (lo':=w.heap.size+1) (hi':=w1.heap.size) sM (dI _);have ab:=za af;have aO:=za ag;clear ak af ag C;have cz:=E.cell;have fz:=E.frozen;have z:=za (fun (W:World) (hW:Ext w1 W) (u0 u1 u2:Value)=>(⟨(h.ext (G.trans hW)).frm (zdm W w.heap.size u0 u1 u2) (fun k hk hS=>oM),(((G.trans hW).dr.ag (R:=R) (p:=⟨w.heap.size,0,none⟩) (dI _) u0).ag (p:=⟨w.heap.size,1,none⟩) (dI _) u1).ag (p:=⟨w.heap.size,2,none⟩) (dI _) u2⟩:Rd (((W.setCell w.heap.size u0).setCell ⟨w.heap.size,1,none⟩ u1).setCell ⟨w.heap.size,2,none⟩ u2) R M∧Dr R w (((W.setCell w.heap.size u0).setCell ⟨w.heap.size,1,none⟩ u1).setCell ⟨w.heap.size,2,none⟩ u2)))
 by_cases hm2:m<2
 ·go_wp2_with fail
  obtain⟨g1,g2⟩:=z.out w1 (dE _) (.int .i64 0) (.int .i64 0) (.slice none 0 0);exact bodyPost_ret (v:=.tuple #[.agg #[(0:Int),(0:Int),()],.bool false]) (by simp [results,Tryz.results181,go_sem,cz]) rfl (zhl g1 g2)
 ·obtain⟨ad,x0,rfl,a2,aZ,a3,T⟩:=V.str (k:=0) oM;obtain⟨b,o,rfl⟩:∃ b o,ad=⟨b,o,none⟩:=⟨_,_,zdH T⟩;rw [zT,Nat.add_zero] at T;obtain⟨aP,x1,S,_,_,C,U⟩:=V.str (k:=1) oM;obtain rfl:=Option.some.inj S;rw [zT] at U;have aI:(2:Int)<=(m:Int):=oM;have ar:=za (ab.out x1 (dG C.out));go_wp2_with fail
  refine (zdx (x:=x0)).mono ?_;rintro e O ⟨a,aA,rfl,ha,u⟩;have ae:=u.aa U;have Q:=E.ext u;have cz2:=Q.cell;have ao:=Q.frozen;go_wp2_with fail
  refine (zel (s:=x1) (oH ar.out)).mono ?_;rintro e a8 ⟨y,aB,rfl,rfl⟩;obtain⟨g1,g2⟩:=z.out O u (.int .i64 0) (.int .i64 0) (.slice none 0 0);have Hnone:=za (zhl (L:=1001) g1 g2);clear g1 g2;cases aA
  ·exact yY08a2
  ·cases aB
   ·exact yY08a2
   ·have bG:=Blk.new O 38 #[a,y,()];have Y:=(dE O).alloc (.cells #[a,y,()] 38);have a5:O.heap.size<(O.alloc (.cells #[a,y,()] 38)).heap.size:=sM;have aK:=u.size;have aJ:=G.size;have ax:=G.trans u;clear T U ae cz fz cz2 ao;go_wp2_with fail
    generalize O.alloc _=w3 at *;have X:=ax.trans Y;have ah:=(V.ext u).ext Y;have an:=Q.ext Y;have f:Acc w w3 w3 R O.heap.size M a y (.slice none 0 0) []:=⟨bG,World.ownsRow_nil _ _ _ _,h.ext X,X.dr,Frm.refl _ _,aq,X.size,oM⟩
    go_loopw [10] (fun i wr=>∃ (k:Nat) (v:Value) (t:List Edg),2<=k∧k<=m∧i=.int .i64 k∧Acc w w3 wr R O.heap.size M a y v t∧t.length<=k) (fun i _=>m - (intOf i).toNat)
    case atStart=>exact⟨2,_,[],dI _,oM,rfl,f,eC _⟩
    case round =>
     clear f;obtain⟨k,v,t,a1,hk,rfl,f,aY⟩:=hrel;have hG:=f.blk.cell;have F:=an.frm f.fr oM;have H:=F.cell;have I:=F.frozen;have ai:=f.old ah oM
     by_cases hlt:k<m
     ·obtain⟨ad,xk,S,_,_,ay,av⟩:=ai.str hlt;obtain rfl:=Option.some.inj S;rw [zT] at av;have au:=za (ab.out xk (dG ay.out));clear H I;go_wp2_with fail
      refine (spec_l2Parse (s:=xk) (oH au.out)).mono ?_;rintro e w4 ⟨r,aC,rfl,D⟩;have hacc4:=f.ext (D.alloc (.cells #[r.fr,r.le,r.ta] 117));have aR:=Blk.new w4 117 #[r.fr,r.le,r.ta];have j:=F.ext (D.alloc (.cells #[r.fr,r.le,r.ta] 117));clear hG;cases aC
      ·have hz4:=j.cell;have az:=j.frozen;go_wp2_with fail
       generalize w4.alloc _=wq at *;exact yY08a1
      ·have ap:=hacc4.blk.cell;go_wp2_with (at_builtin;refine zeS w3 (w4.alloc (.cells #[r.fr,r.le,r.ta] 117)) rfl _ _ _ rfl 117 _ 3 24 Tryz.underlying36 zaV rfl dM v t.length (zn t) _ _ rfl (by first|rfl|simp [go_sem]) hacc4.fr.size hacc4.own rfl (by simp [Value.oneCell']) lM oM ?_;intro g cap w5 zkr hg5 hat5 hlt5;obtain⟨h1,h2,h3⟩:=hacc4.push (e:=r) (W':=w5) zkr hg5 hat5;have aV:=h1.out)
       go_roundw
       case rel=>exact⟨k+1,_,_,oM,oM,gM,h3,by simp;omega⟩
       case measure=>simp [intOf];omega
     ·obtain rfl:m=k:=oM;obtain⟨A,n,c,rfl⟩:=f.form;obtain⟨rfl,aj⟩:=f.reads;clear H I;go_wp2_with fail
      refine (zgw (s:=⟨a,y,t⟩) aj oM).mono ?_;rintro e w4 ⟨tx,rfl,aw,D⟩;have hacc4:=f.ext D;have j:=F.ext D;have hz4:=j.cell;have az:=j.frozen;have ap:=hacc4.blk.cell;cases hne:tx.toList==x.toList
      ·go_wp2_with fail
       exact yY08a1
      ·have J:zk (⟨a,y,t⟩:Sys)=true:=by
        cases hv:zk (⟨a,y,t⟩:Sys)
        ·exfalso;have h0:=aw hv;have a4:x.size=0:=str_empty (by simpa using hne) h0;omega
        ·rfl
       have q:=valid_good J;have aH:=zjJ hacc4.own;obtain⟨g1,g2,g3⟩:=hacc4.fin (Z:=w.heap.size) (dI _) oM (.int .i64 a) (.int .i64 y) (.slice A t.length c);have aa:=za (show zjg R M 1001 w (.returned (.tuple #[.agg #[a,y,.slice A t.length c],.bool true])) _ from ⟨⟨a,y,t⟩,A,t.length,c,true,rfl,g1,⟨fun _=>q,q.fair⟩,oM,g2,g3⟩);clear g1 g2 g3 q J;go_wp2_with fail
       exact bodyPost_ret (v:=.tuple #[.agg #[a,y,.slice A t.length c],.bool true]) (by simp [results,Tryz.results181,go_sem,hz4]) rfl aa.out
structure Tch (w:World) (A:Option Addr) (n:Nat) (B:Option Addr) (m:Nat) (B':Option Addr) (m':Nat) (s:Sys) (p:Aut) (L:Nat):Prop where
 at_:∃ lo hi,zV w lo hi A n s∧zF w lo hi B m B' m' p∧hi<=w.heap.size
 sv:zk s=true
 pv:zj p=true
 lt:L<64
section
variable {w W:World} {n c m d m' d' L:Nat} {A B B':Option Addr} {s:Sys} {p:Aut}
theorem Tch.ext (h:Tch w A n B m B' m' s p L)(hx:Ext w W):Tch W A n B m B' m' s p L:=by
 obtain⟨f,d,a,b,c⟩:=h.at_;exact⟨⟨f,d,a.ext hx,b.ext hx,eI c hx.size⟩,h.sv,h.pv,h.lt⟩
theorem zaU (h:Tch w A n B m B' m' s p L) :
  Calls Tryz.prog 133 #[.agg #[.bool false,(0:Int),(),(),s.al,s.st,.slice A n c,p.al,.slice B m d,.slice B' m' d',L]] w fun e w'=>e=.returned (.int .i64 (L:Nat))∧Ext w w':=by
 obtain⟨t,r,f,g,q⟩:=h.at_;have i:=za (fun W (hW:Ext w W)=>zfl (c:=c) (d:=d) (d':=d') (L:=L) (f.ext hW) (g.ext hW) h.sv h.pv h.lt);clear h f g
 go_enter Tryz.func133,Tryz.ntmps133
 go_upto_region 1 with fail
 generalize U0:w.alloc _=l at *;obtain⟨a,j⟩:=iK U0;clear U0;have o:=j.cells;have k:=dE l;go_wp2_with (first
  |(go_at_call 145;refine (i.out _ a).mono (mQ fun u b=>?_)))
 go_ret;exact⟨rfl,a.trans b⟩
theorem zeK (h:Tch w A n B m B' m' s p L)(ht:t.size<=9223372036854775807) :
  Calls Tryz.prog 214 #[.agg #[.bool false,(0:Int),(),(),s.al,s.st,.slice A n c,p.al,.slice B m d,.slice B' m' d',L],t] w fun e w'=>e=.returned (.bool (zo s p L t))∧Ext w w':=by
 obtain⟨u,r,f,g,k⟩:=h.at_;have i:=za (fun W (hW:Ext w W)=>zej (c:=c) (d:=d) (d':=d') (L:=L) (t:=t) (f.ext hW) (g.ext hW) h.sv h.pv h.lt (eI k hW.size) ht);clear h f g
 go_enter Tryz.func214,Tryz.ntmps214
 go_upto_region 1 with fail
 generalize U0:w.alloc _=o at *;obtain⟨a,j⟩:=iK U0;clear U0;have q:=j.cells;have l:=dE o;go_wp2_with (first
  |(go_at_call 62;refine (i.out _ a).mono (mQ fun v b=>?_)))
 go_ret;exact⟨rfl,a.trans b⟩
end
theorem str_loop (b:ByteArray):∀ (k:Nat) (i:Nat) (r:List UInt8),b.size - i=k->ByteArray.toList.loop b i r=r.reverse++b.data.toList.drop i:=by
 intro k
 induction k with
 |zero =>
  intro i r h;unfold ByteArray.toList.loop;rw [if_neg oM,List.drop_of_length_le (by rw [Array.length_toList];show b.size<=i;omega),List.append_nil]
 |succ k ih =>
  intro i r h;have a:i<b.size:=oM;unfold ByteArray.toList.loop;rw [if_pos a,ih (i+1) _ oM,gV (i:=i) (by rw [Array.length_toList];exact a),List.reverse_cons,iZ];have e:b.get! i=b.data.toList[i]'(by rw [Array.length_toList];exact a):=by
   rw [Array.getElem_toList];show b.data[i]! = _;exact getElem!_pos b.data i a
  rw [e];rfl
theorem str_data (b:ByteArray):b.toList=b.data.toList:=by
 unfold ByteArray.toList;rw [str_loop b _ 0 [] rfl];rfl
theorem str_ext (h:x.toList=y.toList):x=y:=by
 rw [str_data,str_data] at h;cases x;cases y
 congr 1
 exact Array.toList_inj.1 h
theorem str_ne (h:¬ x=y):(x.toList==y.toList)=false:=by
 rw [beq_eq_false_iff_ne];exact fun e=>h (str_ext e)
noncomputable def zcS (l:List ByteArray) (x:ByteArray):Bool:=by classical exact decide (x∈l)
theorem zaw :zcS l x=true↔x∈l:=by unfold zcS;simp
theorem zcp :zcS l x=false↔x∉l:=by rw [← Bool.not_eq_true,zaw]
theorem zdT (h:Reads w lo hi 1 A n (zM l)) :
  Calls Tryz.prog 228 #[.slice A n c,x] w fun e w'=>e=.returned (.bool (zcS l x))∧w=w':=by
 have t:=h.len;have g:l.length=n:=by have:=h.length;rw [zaR] at this;omega
 have p:=za g;clear g
 go_enter Tryz.func228,Tryz.ntmps228
 go_wp2_with fail
 go_loop [5] (fun iv=>∃ i:Nat,iv=.int .i64 i∧i<=n∧Hid (∀ j,j<i->l[j]?≠some x)) (fun iv=>n - (intOf iv).toNat)
 case atStart=>exact⟨0,rfl,eC _,za (fun j h=>oM)⟩
 case round =>
  obtain⟨i,rfl,hi,a⟩:=hrel
  by_cases hlt:i<n
  ·have k:(i:Int)<(n:Int):=oM;obtain⟨r,y,rfl,_,_,m,s⟩:=h.str hlt
   by_cases he:y=x
   ·subst he;have d:=za (zaw.2 (dG m.out));go_wp2_with fail
    go_ret;exact⟨zu (by rw [d.out]),rfl⟩
   ·have o:=za he;have f:=str_ne he;clear he;go_wp2_with fail
    go_round
    case rel=>exact⟨i+1,gM,oM,za (fun j b=>by
     rcases Nat.lt_or_eq_of_le (Nat.le_of_lt_succ b) with q|rfl
     ·exact a.out j q
     ·rw [m.out];intro h;exact o.out (Option.some.inj h))⟩
    case measure=>simp [intOf];omega
  ·obtain rfl:i=n:=oM;have d:=za (show zcS l x=false by
    rw [zcp];intro hx;obtain⟨j,b⟩:=eU hx;exact a.out j (by have:=(List.getElem?_eq_some_iff.1 b).1;have:=p.out;omega) b)
   go_wp2_with fail
   go_ret;exact⟨zu (by rw [d.out]),rfl⟩
def zbF (f:ByteArray->Bool) (cols:List ByteArray) (x:ByteArray):List Bool:=cols.map fun c=>f (x++c)
def mkB (b:Bool):ByteArray:=if b then ⟨#[43]⟩ else ⟨#[45]⟩
def mkS (bs:List Bool):ByteArray:=bs.foldl (fun o b=>o++mkB b) ByteArray.empty
theorem mkS_snoc (bs:List Bool) (b:Bool):mkS (bs++[b])=mkS bs++mkB b:=by simp [mkS]
theorem zfT:∀ (bs:List Bool),(mkS bs).data.toList=bs.map fun b=>if b then 43 else 45:=by
 have a:∀ (bs:List Bool) (o:ByteArray),(bs.foldl (fun o b=>o++mkB b) o).data.toList=o.data.toList++bs.map fun b=>if b then 43 else 45:=by
  intro bs
  induction bs with
  |nil=>intro o;simp
  |cons b r ih =>
   intro o;rw [List.foldl_cons,ih,ByteArray.data_append,Array.toList_append,iZ,gZ];cases b<;>rfl
 intro bs;unfold mkS;rw [a];rfl
theorem zjH {α β:Type} {f:α->β}(hf:∀ x y,f x=f y->x=y):∀ {a b:List α},a.map f=b.map f->a=b
 |[],[],_=>rfl
 |[],_ :: _,h=>by simp at h
 |_ :: _,[],h=>by simp at h
 |x :: a,y :: b,h=>by
  simp only [gZ,List.cons.injEq] at h
  rw [hf x y h.1,zjH hf h.2]
theorem mkS_inj {a b:List Bool}(h:mkS a=mkS b):a=b:=by
 have c:(mkS a).data.toList=(mkS b).data.toList:=by rw [h]
 rw [zfT,zfT] at c;exact zjH (fun x y=>by cases x<;>cases y<;>simp) c
theorem mkS_size (bs:List Bool):(mkS bs).size=bs.length:=by
 have h:=congrArg List.length (zfT bs);rw [eT,Array.length_toList] at h;exact h
section
variable {w W:World} {n c m d m' d' L:Nat} {A B B':Option Addr} {s:Sys} {p:Aut}
theorem zfz (h:Tch w A n B m B' m' s p L)(hC:Reads w lo hi 1 C nc (zM cols))(hc:nc<=1000)(hx:x.size<=1000000)(hcs:∀ y∈cols,y.size<=1000000) :
  Calls Tryz.prog 137 #[.agg #[.bool false,(0:Int),(),(),s.al,s.st,.slice A n c,p.al,.slice B m d,.slice B' m' d',L],.slice C nc cc,x] w fun e w'=>e=.returned (.string (mkS (zbF (zo s p L) cols x)))∧Ext w w':=by
 have D:cols.length=nc:=by have:=hC.length;rw [zaR] at this;omega
 have O:=za (fun W (hW:Ext w W) (y:ByteArray) l=>zeK (c:=c) (d:=d) (d':=d') (t:=y) (h.ext hW) l);have M:=za (fun W (hW:Ext w W)=>hC.ext hW);have Q:=za D;have q:=za hcs;clear h hC D hcs
 go_enter Tryz.func137,Tryz.ntmps137
 go_upto_region 1 with fail
 generalize U0:w.alloc _=H at *;obtain⟨f,S⟩:=iK U0;clear U0;have I:=S.cells;go_wp2_with fail
 go_loopw [7,8] (fun v iv wr=>∃ (k:Nat) (o:ByteArray),iv=.int .i64 k∧k<=nc∧v=.string o∧o.size<=k∧Hid (o=mkS (zbF (zo s p L) (cols.take k) x))∧Ext H wr) (fun _ iv _=>nc - (intOf iv).toNat)
 case atStart=>exact⟨0,_,rfl,eC _,rfl,dM,za rfl,dE _⟩
 case round =>
  obtain⟨k,o,rfl,hk,rfl,T,F,a⟩:=hrel
  by_cases hlt:k<nc
  ·have E:(k:Int)<(nc:Int):=oM;obtain⟨R,y,rfl,_,_,l,z⟩:=(M.out wr (f.trans a)).str hlt;have Y:=q.out y (dG l.out);have CY:∀ W,Ext wr W->W.cell? (R.add k)=some (.string y):=fun W hW=>hW.aa z;have J:=fun W (hW:Ext wr W)=>I W (a.trans hW);have U:¬ 9223372036854775807<x.size+y.size:=oM;have G:¬ 9223372036854775807<o.size+1:=oM;have b:(x++y).size<=9223372036854775807:=by rw [ByteArray.size_append];omega
   have g:=za (fun W (hW:Ext wr W)=>O.out W ((f.trans a).trans hW) (x++y) b);have V:=dE wr;have i:=za (show mkS (zbF (zo s p L) (cols.take (k+1)) x)=o++mkB (zo s p L (x++y)) by
    rw [eG,l.out,zbF,fO,← zbF,F.out,e8,List.map_singleton,mkS_snoc])
   obtain⟨bv,r⟩:∃ bv,Hid (zo s p L (x++y)=bv):=⟨_,rfl⟩;rw [r.out] at g i;clear z b;go_wp2_with fail
   go_region_held3 (fun W=>Ext wr W) (first|assumption|(refine gG ?_;assumption)|(refine fI ?_ aM;assumption)|(refine fI ?_ aM;refine gG ?_;assumption)) (first
    |(go_at_call 214;refine (g.out _ ?_).mono ?_;(first|assumption|(refine gG ?_;assumption));rintro e Z ⟨rfl,X⟩))
   have j:Ext H Z:=a.trans aM;cases bv
   all_goals
    go_wp2_with fail
    go_roundw
    case rel=>exact⟨k+1,_,gM,oM,rfl,by rw [ByteArray.size_append];show o.size+1<=k+1;omega,i.symm,j⟩
    case measure=>simp [intOf];omega
  ·obtain rfl:k=nc:=oM;have u:=za (show mkS (zbF (zo s p L) cols x)=o by rw [F.out,eF (oH Q.out)]);go_wp2_with fail
   go_ret;exact⟨by rw [u.out];rfl,f.trans a⟩
end
section
open Go.WideMaps Go.Maps
def zbm (T:List Nat):List Value:=T.map fun x=>.int .u16 (x:Nat)
theorem zbR (T:List Nat):(zbm T).length=T.length:=by simp [zbm]
def zgS (T:List Nat):Value:=.agg (zbm T).toArray
theorem pset_inj {U:List Nat}(h:zgS T=zgS U):T=U:=by
 unfold zgS zbm at h;injection h with h
 have c:T.map (fun x=>Value.int .u16 (x:Nat))=U.map fun x=>Value.int .u16 (x:Nat):=by simpa using h
 exact zjH (fun a b e=>by injection e with _ e;exact Int.ofNat.inj e) c
abbrev domP (T:List Nat):Prop:=T.length=12∧∀ x∈T,x<65536
theorem ziU:ArrKey Tryz.prog 222 220 12:=⟨Tryz.underlying222,kM,kM,kM⟩
theorem types_pos:(0:Nat)<(Tryz.prog).types.size:=of_decide_eq_true kM
theorem zjd:∃ m,(Tryz.prog).types.size=m+1:=⟨(Tryz.prog).types.size - 1,oH types_pos⟩
theorem zhL {α β:Type} {f:α->Option β}:∀ (l:List α),(∀ i∈l,(f i).isSome=true)->(l.mapM f).isSome=true
 |[],_=>rfl
 |a :: r,h=>by
  obtain⟨y,hy⟩:=Option.isSome_iff_exists.1 (h a sM)
  obtain⟨ys,hys⟩:=Option.isSome_iff_exists.1 (zhL r (fun i hi=>h i (by simp [hi])))
  rw [List.mapM_cons,hy,hys]
  rfl
noncomputable def litP (T:List Nat):Lit:=(keyOf Tryz.prog 222 (zgS T)).getD (.bool false)
theorem zeB (h:domP T):(keyOf Tryz.prog 222 (zgS T)).isSome=true:=by
 obtain⟨c,f⟩:=h;have A:=ziU;obtain⟨m,j⟩:=zjd;have a:=A.keyType zjd;have b:(zbm T).toArray.size=12:=by simp [zbm,c]
 unfold keyOf;simp only [A.hu];rw [if_pos (by simp [a,zgS,Value.formed,A.hu,A.size,zbm,c]),j];unfold Program.keyLits;simp only [A.hu,zgS,Value.cells];rw [if_pos (by rw [A.size];simpa using b)];rw [Option.isSome_map,Option.isSome_map];refine zhL _ fun i hi=>?_;rw [List.mem_range] at hi;obtain⟨x,d⟩:∃ x,T[i]?=some x:=⟨_,dH oM⟩;have l:=f x (dG d);have g:((zbm T).toArray.toList.drop (i*(Tryz.prog).cellsOf 220)).take ((Tryz.prog).cellsOf 220)=[.int .u16 (x:Nat)]:=by
  rw [A.one,Nat.mul_one];simp only [zbm];rw [List.take_one,List.head?_drop];simp [d]
 rw [g];cases m with
 |zero =>
  have n:(1:Nat)<(Tryz.prog).types.size:=of_decide_eq_true kM;omega
 |succ m =>
 unfold Program.keyLits;have k:(Lit.int .u16 (x:Int)).wf=true:=by
  simp [Lit.wf,IntKind.min,IntKind.max,IntKind.bits,IntKind.signed];omega
 simp [Tryz.underlying220,k]
theorem keyP:KeyG 150 222 zgS litP domP:=
 ⟨Keyed.of_law ziU.law,Tryz.underlying150,fun h=>by
  obtain⟨l,hl⟩:=Option.isSome_iff_exists.1 (zeB h);unfold litP;rw [hl];rfl,fun {x y} hx hy e=>by
  obtain⟨l,hl⟩:=Option.isSome_iff_exists.1 (zeB hx);obtain⟨k,hk⟩:=Option.isSome_iff_exists.1 (zeB hy);unfold litP at e;rw [hl,hk] at e;obtain rfl:l=k:=by simpa using e
  exact pset_inj ((Keyed.of_law ziU.law).inj hl hk)⟩
theorem keyS:KeyG 169 9 (fun x:ByteArray=>.string x) (fun x=>.string x.data.toList) (fun x=>x.size<=9223372036854775807):=
 ⟨string_keyed Tryz.underlying9,Tryz.underlying169,fun {x} h=>by simp [keyOf,Tryz.underlying9,mapKey,maxLen,h],fun _ _ e=>by
  injection e with e
  exact ByteArray.ext (Array.ext' e)⟩
end
theorem zcQ (es:List Edg):∀ u∈zn es,u.oneCell'=true:=by
 induction es with
 |nil=>intro u h;cases h
 |cons e r ih =>
  intro u h;simp only [zn,List.mem_cons] at h;rcases h with rfl|rfl|rfl|h
  ·rfl
  ·rfl
  ·rfl
  ·exact ih u h
theorem zec (h:es[k]?=some e) (x:Int) :
  (zn es).set (k*3) (.int .i64 x)=zn (es.set k ⟨x,e.le,e.ta⟩)∧(zn es).set (k*3+1) (.int .i64 x)=zn (es.set k ⟨e.fr,x,e.ta⟩)∧(zn es).set (k*3+2) (.int .i64 x)=zn (es.set k ⟨e.fr,e.le,x⟩):=by
 induction es generalizing k with
 |nil=>simp at h
 |cons a r ih =>
  cases k with
  |zero=>simp at h;subst h;exact⟨rfl,rfl,rfl⟩
  |succ k =>
   have:=ih (k:=k) (by simpa using h);have b:(k+1)*3=k*3+1+1+1:=oM;refine⟨?_,?_,?_⟩<;>rw [b]<;>simp only [zn,List.set_cons_succ]
   ·rw [this.1]
   ·rw [this.2.1]
   ·rw [this.2.2]
section
variable {w0 wB W:World} {R G M:Nat} {al st:Int} {es:List Edg}
theorem Acc.turn {g m j:Nat} {x:Int} {fs:List Edg}(h:Acc w0 wB W R G M al st (.slice (some g) m c) es)(hm:m=es.length)(hs:(zn es).set j (.int .i64 x)=zn fs)(hl:fs.length=es.length) :
  Acc w0 wB (W.setCell ⟨g,j,none⟩ x) R G M al st (.slice (some g) m c) fs:=by
 have d:g≠G:=h.far rfl;have l:=(h.own.lt g rfl).1;have i:=h.hR;have f:=h.hB;have a:=Frm.setCell W g j (.int .i64 x);refine⟨h.blk.frm a oM,?_,h.rd.frm a (fun k h1 h2=>oM),h.dr.ag (by dsimp only;omega) _,?_,h.hR,h.hB,h.hG⟩
 ·have b:=h.own;rw [← hm] at b;have:=(b.stored j (.int .i64 x)).1;rw [hs] at this;rw [hl,← hm];exact this
 ·exact⟨h.fr.os,h.fr.tape,h.fr.output,by simpa [World.setCell] using h.fr.size,fun k hk hn=>(Below.heap_setCell _ _ _ _ (by dsimp only;omega)).trans (h.fr.block k hk hn)⟩
end
def RetStrL (w:World) (l:List ByteArray) (e:Ending) (w':World):Prop:=
 ∃ A c,e=.returned (.slice A l.length c)∧w'.ownsRow w.heap.size 9 1 (.slice A l.length c) l.length (zM l)∧Ext w w'
def zaA (f:ByteArray->Bool) (cols words:List ByteArray):List ByteArray:=words.map fun x=>mkS (zbF f cols x)
theorem strs_snoc (l:List ByteArray) (x:ByteArray):zM (l++[x])=zM l++[.string x]:=by simp [zM]
section
variable {w W:World} {n c m d m' d' L:Nat} {A B B':Option Addr} {s:Sys} {p:Aut}
theorem zeM {R:Option Addr} {nr cr lo2 hi2:Nat} (h:Tch w A n B m B' m' s p L)(hC:Reads w lo hi 1 C nc (zM cols))(hR:Reads w lo2 hi2 1 R nr (zM rows))(hc:nc<=1000)(hr:nr<=1000)(hcs:∀ y∈cols,y.size<=1000000)(hrs:∀ y∈rows,y.size<=1000000) :
  Calls Tryz.prog 135 #[.agg #[.bool false,(0:Int),(),(),s.al,s.st,.slice A n c,p.al,.slice B m d,.slice B' m' d',L],.slice C nc cc,.slice R nr cr] w (RetStrL w (zaA (zo s p L) cols rows)):=by
 have I:rows.length=nr:=by have:=hR.length;rw [zaR] at this;omega
 have U:=za (fun W (hW:Ext w W) (y:ByteArray) l=>zfz (c:=c) (d:=d) (d':=d') (cc:=cc) (x:=y) (h.ext hW) (hC.ext hW) hc l hcs);have T:=za (fun W (hW:Ext w W)=>hR.ext hW);have F:=za I;have r:=za hrs;clear h hC hR I hrs hcs
 go_enter Tryz.func135,Tryz.ntmps135
 go_upto_region 1 with fail
 generalize U0:w.alloc _=o at *;obtain⟨g,Y⟩:=iK U0;clear U0;have Q:=Y.cells;go_wp2_with fail
 go_loopw [7,8] (fun v iv wr=>∃ k:Nat,iv=.int .i64 k∧k<=nr∧wr.ownsRow o.heap.size 9 1 v k (zM (zaA (zo s p L) cols (rows.take k)))∧Ext o wr) (fun _ iv _=>nr - (intOf iv).toNat)
 case atStart=>exact⟨0,rfl,eC _,World.ownsRow_lit o #[] 0 (dI _) lM rfl,(dE _).alloc _⟩
 case round =>
  obtain⟨k,rfl,H,f,b⟩:=hrel
  by_cases hlt:k<nr
  ·have J:(k:Int)<(nr:Int):=oM;obtain⟨V,y,rfl,_,_,l,G⟩:=(T.out wr (g.trans b)).str hlt;have D:=r.out y (dG l.out);have CY:∀ W,Ext wr W->W.cell? (V.add k)=some (.string y):=fun W hW=>hW.aa G;have S:=fun W (hW:Ext wr W)=>Q W (b.trans hW);have q:=za (fun W (hW:Ext wr W)=>U.out W ((g.trans b).trans hW) y D);have j:=dE wr;have t:=za (show zM (zaA (zo s p L) cols (rows.take (k+1)))=zM (zaA (zo s p L) cols (rows.take k))++[.string (mkS (zbF (zo s p L) cols y))] by
    rw [eG,l.out,zaA,fO,← zaA,e8,List.map_singleton,strs_snoc])
   generalize mkS (zbF (zo s p L) cols y)=z at *;clear G;go_wp2_with fail
   refine uR (fun X=>Ext wr X) [9] (zw.of [0,1,2,3,4,5,6,7,8,9,10]) ?_;refine uQ ?_;refine ze fun K hK=>?_;go_simp;refine (q.out _ j.drew).mono (mQ fun M u=>?_);have a:Ext wr M:=j.drew.trans u;refine hK.out _ _ a ?_;refine pT ?_;refine uQ ?_;refine ze fun K hK=>?_;go_simp;refine hK.out _ _ (a.alloc _) ?_;refine pT ?_;refine zb fun K hK=>?_;refine zaH o M _ _ _ rfl 9 _ 1 16 Tryz.underlying88 zt rfl dM _ k (zM (zaA (zo s p L) cols (rows.take k))) _ _ rfl rfl (b.trans a).size (zh f a) rfl (zcz _) lM oM ?_;intro g8 cap8 w8 hown8 hg8 hat8 hlt8;refine hK.out _ _ ?_;refine pT ?_;refine uQ ?_;refine zg ?_;go_wp2_with fail
   go_roundw
   case rel=>exact⟨k+1,gM,oM,by rw [t.out];exact hown8,(b.trans a).grown hg8 (fun k H=>(f.lt k H).1)⟩
   case measure=>simp [intOf];omega
  ·obtain rfl:k=nr:=oM;obtain⟨O,Z,rfl⟩:=zi f;have E:=za (show (rows.take k)=rows from eF (oH F.out));rw [E.out] at f;have i:=za (show (zaA (zo s p L) cols rows).length=k by rw [zaA,eT];exact F.out);go_wp2_with fail
   go_ret;exact⟨O,Z,by rw [i.out];rfl,by rw [i.out];exact zq f g.size,g.trans b⟩
theorem zgL (h:Tch w A n B m B' m' s p L)(hx:x.size<=9223372036854775807) :
  Calls Tryz.prog 226 #[.agg #[.bool false,(0:Int),(),(),s.al,s.st,.slice A n c,p.al,.slice B m d,.slice B' m' d',L],x] w fun e w'=>e=.returned (.bool (inB x L&&decide (x.size<=4000)))∧Ext w w':=by
 have g:=za (fun W (hW:Ext w W)=>zaU (c:=c) (d:=d) (d':=d') (h.ext hW));have o:=h.lt;have a:Ext w (w.alloc (.cells #[.bool false,(0:Int),(),(),s.al,s.st,.slice A n c,p.al,.slice B m d,.slice B' m' d',L] 87)):=(dE _).alloc _;have i:=Blk.new w 87 #[.bool false,(0:Int),(),(),s.al,s.st,.slice A n c,p.al,.slice B m d,.slice B' m' d',L];clear h;cases hin:inB x L
 all_goals
  have b:=za hin;clear hin
  go_enter Tryz.func226,Tryz.ntmps226
  go_upto_region 1 with fail
  generalize w.alloc _=k at *;have l:=i.cells;have j:=dE k;go_wp2_with (first
   |(go_at_call 133;refine (g.out _ a).mono (mQ fun q f=>?_))
   |(go_at_call 146;refine (zaY hx oM).mono ?_;rw [b.out];rintro e r ⟨rfl,rfl⟩))
  go_ret;exact⟨zu (by first|rfl|(rw [Bool.true_and,decide_eq_decide];omega)),a.trans f⟩
end
def zbY (l:Nat):ByteArray:=strOfNums [((97+l:Nat):Int)]
theorem zcC (l:Nat):(zbY l).size=1:=strOfNums_size _
structure zbX (L:Nat) (f:ByteArray->Bool) (rows cols:List ByteArray):Prop where
 r1:1<=rows.length
 r12:rows.length<=12
 c1:1<=cols.length
 c20:cols.length<=20
 r0:rows[0]?=some ⟨#[]⟩
 c0:cols[0]?=some ⟨#[]⟩
 rw_:∀ (i:Nat) (x:ByteArray),1<=i->rows[i]?=some x->inB x L=true∧∃ y l,l<6∧x=y++zbY l∧y∈rows.take i
 cw:∀ (i:Nat) (x:ByteArray),1<=i->cols[i]?=some x->inB x L=true∧x.size<=4000∧x∉cols.take i
 nd:(rows.map (zbF f cols)).Nodup
section
variable {L:Nat} {f:ByteArray->Bool} {rows cols:List ByteArray}
theorem inB_empty (L:Nat):inB ⟨#[]⟩ L=true:=by unfold inB overB;rfl
theorem zbX.rsz (h:zbX L f rows cols):∀ (i:Nat) (x:ByteArray),rows[i]?=some x->x.size<=i:=by
 intro i
 induction i using Nat.strongRecOn with
 |ind i ih =>
  intro x hx;rcases iL i with rfl|c
  ·rw [h.r0] at hx;obtain rfl:=Option.some.inj hx;exact dI _
  ·obtain⟨-,y,l,g,rfl,d⟩:=h.rw_ i x c hx;obtain⟨j,b⟩:=eU d;have a:j<i:=by have:=(List.getElem?_eq_some_iff.1 b).1;rw [fL] at this;omega
   rw [jR a] at b;have:=ih j a y b;rw [ByteArray.size_append,zcC l];omega
theorem zbX.rin (h:zbX L f rows cols) (hx:x∈rows):inB x L=true∧x.size<=12:=by
 obtain⟨i,a⟩:=eU hx;have c:=(List.getElem?_eq_some_iff.1 a).1;refine⟨?_,by have:=h.rsz i x a;have:=h.r12;omega⟩;rcases iL i with rfl|b
 ·rw [h.r0] at a;obtain rfl:=Option.some.inj a;exact inB_empty L
 ·exact (h.rw_ i x b a).1
theorem zbX.cin (h:zbX L f rows cols) (hx:x∈cols):inB x L=true∧x.size<=4000:=by
 obtain⟨i,a⟩:=eU hx;rcases iL i with rfl|b
 ·rw [h.c0] at a;obtain rfl:=Option.some.inj a;exact⟨inB_empty L,dM⟩
 ·exact⟨(h.cw i x b a).1,(h.cw i x b a).2.1⟩
theorem rowsM_nodup (h:zbX L f rows cols):(zaA f cols rows).Nodup:=by
 have a:=h.nd;unfold zaA;have b:rows.map (fun x=>mkS (zbF f cols x))=(rows.map (zbF f cols)).map mkS:=by rw [List.map_map];rfl
 rw [b];exact List.pairwise_map.2 (a.imp fun hne e=>hne (mkS_inj e))
end
def TabAt (w:World) (R:Option Addr) (nr:Nat) (C:Option Addr) (nc:Nat) (rows cols:List ByteArray):Prop:=
 ∃ lo hi lo2 hi2,Reads w lo hi 1 R nr (zM rows)∧Reads w lo2 hi2 1 C nc (zM cols)
theorem TabAt.ext {R:Option Addr} {nr:Nat} (h:TabAt w R nr C nc rows cols)(hx:Ext w W):TabAt W R nr C nc rows cols:=by
 obtain⟨g,f,b,a,c,d⟩:=h;exact⟨g,f,b,a,c.ext hx,d.ext hx⟩
theorem TabAt.nr {R:Option Addr} {nr:Nat} (h:TabAt w R nr C nc rows cols):rows.length=nr∧cols.length=nc:=by
 obtain⟨j,i,g,f,c,d⟩:=h;have a:=c.length;have b:=d.length;rw [zaR] at a b;omega
theorem Reads.takeS (h:Reads w lo hi 1 A n (zM l))(hk:k<=n):Reads w lo hi 1 A k (zM (l.take k)):=by
 have g:=h.length;rw [zaR] at g;refine⟨by rw [zaR,fL];omega,oH h.len,fun h0=>?_⟩;obtain⟨a,e,b,c,d⟩:=h.2.2 oM;refine⟨a,e,b,c,fun j u hu=>d j u ?_⟩;unfold zM at hu ⊢;rw [List.map_take] at hu;have f:j<k:=by have:=(List.getElem?_eq_some_iff.1 hu).1;rw [fL] at this;omega
 rwa [jR f] at hu
theorem str_front (y:ByteArray) (l:Nat):(y++zbY l).extract 0 y.size=y:=by
 rw [ByteArray.extract_append_eq_left rfl]
section
variable {w W:World} {L nr nc cr cc:Nat} {R C:Option Addr} {rows cols:List ByteArray} {f:ByteArray->Bool}
theorem zjO (hT:TabAt w R nr C nc rows cols)(hI:zbX L f rows cols)(hL:L<64)(hcr:nr<=cr)(hcc:nc<=cc) :
  Calls Tryz.prog 274 #[L,.agg #[.slice R nr cr,.slice C nc cc]] w fun e w'=>e=.returned (.bool true)∧Ext w w':=by
 obtain⟨Y,Z⟩:=hT.nr;have z:=hI.r1;have B:=hI.r12;have r:=hI.c1;have s:=hI.c20;rw [Y] at z B;rw [Z] at r s;obtain⟨lo,hi,ar,aj,M,O⟩:=hT;obtain⟨H,x,rfl,_,_,j,d⟩:=M.str (show 0<nr by omega);obtain⟨J,y,rfl,_,_,D,p⟩:=O.str (show 0<nc by omega);obtain rfl:=Option.some.inj (j.out.symm.trans hI.r0);obtain rfl:=Option.some.inj (D.out.symm.trans hI.c0);rw [addr_zero] at d p;have U:=za (fun W (hW:Ext w W)=>M.ext hW);have V:=za (fun W (hW:Ext w W)=>O.ext hW);have G:=za hI;have CX:=fun W (hW:Ext w W)=>hW.aa d;have CY:=fun W (hW:Ext w W)=>hW.aa p;clear M O hI j D d p Y Z
 go_enter Tryz.func274,Tryz.ntmps274
 go_upto_region 1 with fail
 generalize U0:w.alloc _=T at *;obtain⟨c,I⟩:=iK U0;clear U0;have k1:=I.cell;have d:=CX _ c;have p:=CY _ c;have b:=dE T;go_wp2_with fail
 go_loopw [7] (fun iv wr=>∃ k:Nat,1<=k∧k<=nr∧iv=.int .i64 k∧Ext T wr) (fun iv _=>nr - (intOf iv).toNat)
 case atStart=>exact⟨1,dI _,z,rfl,b⟩
 case round =>
  clear b k1 d p;obtain⟨k,i,E,rfl,a⟩:=hrel
  by_cases hlt:k<nr
  ·have u:(k:Int)<(nr:Int):=oM;have Q:(k:Int)<=(cr:Int):=oM;obtain⟨ah,x,e,_,_,j,d⟩:=(U.out wr (c.trans a)).str hlt;obtain rfl:=Option.some.inj e;obtain⟨g,y,l,hl,o,D⟩:=G.out.rw_ k x i j.out;have S:x.size=y.size+1:=by rw [o,ByteArray.size_append,zcC]
   have an:x.extract 0 y.size=y:=by rw [o,str_front]
   have h0:0<x.size:=oM;have ao:y.size<=12:=by have:=G.out.rsz k x j.out;omega
   have h:=za (zaw.2 D);have m:=za (fun W (hW:Ext w W)=>(U.out W hW).takeS E);have n:=za g;have F:∀ W,Ext wr W->W.cell? (H.add k)=some (.string x):=fun W hW=>hW.aa d;have CB:∀ W,Ext wr W->∀ q,W.cell? ⟨w.heap.size,q,none⟩=#[Value.slice (some H) nr cr,.slice (some J) nc cc][q]?:=fun W hW=>(I.ext (a.trans hW)).cell;have b:=dE wr;have am:IntKind.i64.wrap (y.size:Int)=(y.size:Int):=IntWalk.i64_in _ oM;have al:((y.size:Int)+1==0)=false:=by simp;omega
   have ap:(y.size:Int)<=(y.size:Int)+1:=oM;clear g D o d j hl e;go_wp2_with fail
   refine uR (fun X=>Ext wr X) [] (zw.of [0,1,2,3,4,5,6,7,8,9,10,11,12,13,14,15,16,17,18,19,20,21]) ?_;refine uQ ?_;refine ze fun K hK=>?_;go_simp;refine (zaY oM oM).mono ?_;rw [n.out];rintro e w3 ⟨rfl,rfl⟩;refine hK.out _ _ b.drew ?_;refine pT ?_;refine uQ ?_;refine ze fun K hK=>?_;go_simp;refine (zdT (m.out _ (c.trans (a.trans b.drew)))).mono ?_;rw [h.out];rintro e w4 ⟨rfl,rfl⟩;refine hK.out _ _ b.drew ?_;refine pT ?_;refine uQ ?_;refine zg ?_;go_wp2_with fail
   go_roundw
   case rel=>exact⟨k+1,oM,oM,gM,a.trans b.drew⟩
   case measure=>simp [intOf];omega
  ·have t:(nr:Int)<=(k:Int):=oM;go_wp2_with fail
   go_loopw [9] (fun iv wr=>∃ k:Nat,1<=k∧k<=nc∧iv=.int .i64 k∧Ext T wr) (fun iv _=>nc - (intOf iv).toNat)
   case atStart=>exact⟨1,dI _,r,rfl,a⟩
   case round =>
    clear a t hlt E i;obtain⟨k,i,E,rfl,a⟩:=hrel
    by_cases hlt:k<nc
    ·have u:(k:Int)<(nc:Int):=oM;have Q:(k:Int)<=(cc:Int):=oM;obtain⟨ai,x,e,_,_,j,d⟩:=(V.out wr (c.trans a)).str hlt;obtain rfl:=Option.some.inj e;obtain⟨g,S,v⟩:=G.out.cw k x i j.out;have aa:¬ (4000<(x.size:Int)):=oM;have h:=za (zcp.2 v);have m:=za (fun W (hW:Ext w W)=>(V.out W hW).takeS E);have n:=za g;have F:∀ W,Ext wr W->W.cell? (J.add k)=some (.string x):=fun W hW=>hW.aa d;have CB:∀ W,Ext wr W->∀ q,W.cell? ⟨w.heap.size,q,none⟩=#[Value.slice (some H) nr cr,.slice (some J) nc cc][q]?:=fun W hW=>(I.ext (a.trans hW)).cell;have b:=dE wr;clear g v d j e;go_wp2_with (first
      |(go_at_call 146;refine (zaY oM oM).mono ?_;rw [n.out];rintro e w3 ⟨rfl,rfl⟩)
      |(go_at_call 228;refine (zdT (m.out _ (c.trans a))).mono ?_;rw [h.out];rintro e w3 ⟨rfl,rfl⟩))
     go_roundw
     case rel=>exact⟨k+1,oM,oM,gM,a⟩
     case measure=>simp [intOf];omega
    ·have t:(nc:Int)<=(k:Int):=oM;go_wp2_with fail
     go_ret;exact⟨rfl,c.trans a⟩
end
theorem zbX.rsz' (h:zbX L f rows cols):(∀ y∈rows,y.size<=1000000)∧∀ y∈cols,y.size<=1000000:=
 ⟨fun y hy=>by have:=(h.rin hy).2;omega,fun y hy=>by have:=(h.cin hy).2;omega⟩
section
variable {w W:World} {n c m d m' d' L:Nat} {A B B':Option Addr} {s:Sys} {p:Aut} {nr nc cr cc:Nat} {R C:Option Addr} {rows cols:List ByteArray}
theorem zch (h:Tch w A n B m B' m' s p L)(hT:TabAt w R nr C nc rows cols)(hI:zbX L (zo s p L) rows cols)(hcr:nr<=cr)(hcc:nc<=cc) :
  Calls Tryz.prog 211 #[.agg #[.bool false,(0:Int),(),(),s.al,s.st,.slice A n c,p.al,.slice B m d,.slice B' m' d',L],.agg #[.slice R nr cr,.slice C nc cc]] w fun e w'=>e=.returned (.bool true)∧Ext w w':=by
 obtain⟨M,Y⟩:=hT.nr;have z:=hI.r12;have v:=hI.c20;rw [M] at z;rw [Y] at v;have HA:=za (fun W (hW:Ext w W)=>zaU (c:=c) (d:=d) (d':=d') (h.ext hW));have HS:=za (fun W (hW:Ext w W)=>zjO (cr:=cr) (cc:=cc) (hT.ext hW) hI h.lt hcr hcc);obtain⟨lo,hi,aw,aq,Z,h2⟩:=hT;have HR:=za (fun W (hW:Ext w W)=>zeM (c:=c) (d:=d) (d':=d') (cc:=cc) (cr:=cr) (h.ext hW) (h2.ext hW) (Z.ext hW) oM oM hI.rsz'.2 hI.rsz'.1);have S:=za (rowsM_nodup hI);have l:(zaA (zo s p L) cols rows).length=nr:=by rw [zaA,eT];exact M
 generalize zaA (zo s p L) cols rows=zs at *;clear h Z h2 hI M Y
 go_enter Tryz.func211,Tryz.ntmps211
 go_upto_region 1 with fail
 generalize U0:(w.alloc _).alloc _=T at *;obtain⟨o,b1,b2⟩:=Ext.x2_ U0;clear U0;have CB:=b1.cells;have CT:=b2.cells;have f:=dE T;refine uR (fun X=>Ext T X) [] (zw.of [0,2,1,3,4]) ?_;refine uQ ?_;refine ze fun K hK=>?_;go_simp;refine (HA.out _ (o.trans f.drew)).mono (mQ fun w2 F=>?_);have a:Ext T w2:=f.drew.trans F;refine hK.out _ _ a ?_;refine pT ?_;refine uQ ?_;refine ze fun K hK=>?_;go_simp;refine (HS.out _ (o.trans a)).mono (mQ fun w3 H=>?_);have b:=a.trans H;refine hK.out _ _ b ?_;refine pT ?_;refine uQ ?_;refine zg ?_;clear a F H;go_wp2_with (first|(go_at_call 135;refine (HR.out _ (o.trans b)).mono ?_;rintro e U ⟨G,g,rfl,r,I⟩))
 rw [l] at r;have t:=za l;clear l;have E:=b.trans I;have D:=eW r;have u:=za (fun W (hW:Ext U W)=>D.ext hW);have av:nr<=g:=by
  rcases r.2 with ⟨e,h0⟩|⟨g0,an,ao,e,_,_,ab,_⟩
  ·omega
  ·injection e with _ _ h3;omega
 clear b I r D
 go_loopw [6] (fun iv wr=>∃ k:Nat,k<=nr∧iv=.int .i64 k∧Ext U wr) (fun iv _=>nr - (intOf iv).toNat)
 case atStart=>exact⟨0,eC _,rfl,dE _⟩
 case round =>
  obtain⟨k,hk,rfl,q⟩:=hrel
  by_cases hlt:k<nr
  ·have ae:(k:Int)<(nr:Int):=oM;have au:(k:Int)<=(g:Int):=oM;obtain⟨ad,x,rfl,_,_,hx,V⟩:=(u.out wr q).str hlt;have y:=za (show zcS (zs.take k) x=false by
    rw [zcp];intro hm;obtain⟨j,O⟩:=eU hm;have Q:j<k:=by have:=(List.getElem?_eq_some_iff.1 O).1;rw [fL] at this;omega
    rw [jR Q] at O;have:=(List.getElem?_inj (i:=j) (j:=k) (oH t.out) S.out).1 (O.trans hx.out.symm);omega)
   have J:=za (fun W (hW:Ext U W)=>(u.out W hW).takeS hk);have CX:∀ W,Ext wr W->W.cell? (ad.add k)=some (.string x):=fun W hW=>hW.aa V;have f:=dE wr;clear V hx;go_wp2_with fail
   refine uR (fun X=>Ext wr X) [] (zw.of [0,1,2,3,4,5,6,7]) ?_;refine uQ ?_;refine ze fun K hK=>?_;go_simp;refine (zdT (J.out _ (q.trans f.drew))).mono ?_;rw [y.out];rintro e w5 ⟨rfl,rfl⟩;refine hK.out _ _ f.drew ?_;refine pT ?_;refine uQ ?_;refine zg ?_;go_wp2_with fail
   go_roundw
   case rel=>exact⟨k+1,oM,gM,q.trans f.drew⟩
   case measure=>simp [intOf];omega
  ·have ap:(nr:Int)<=(k:Int):=oM;go_wp2_with fail
   go_ret;exact⟨rfl,o.trans (E.trans q)⟩
def candL (L:Nat) (rows:List ByteArray):List ByteArray:=rows.flatMap fun r=>(letters L 6).map fun l=>r++zbY l
noncomputable def zaJ (L:Nat) (f:ByteArray->Bool) (rows cols:List ByteArray):Option ByteArray:=(candL L rows).find? fun x=>!zcS (zaA f cols rows) (mkS (zbF f cols x))
theorem find_pre {α:Type} {P:α->Bool} {pre post l:List α} {x:α}(hl:l=pre++x :: post)(hp:∀ y∈pre,P y=false)(hx:P x=true):l.find? P=some x:=by
 rw [hl,List.find?_append,List.find?_eq_none.2 (fun y hy=>by rw [hp y hy];decide),Option.none_or,List.find?_cons_of_pos hx]
theorem open_find {zs:List ByteArray} {ls:List Nat}  {i l:Nat} (hx:rows[i]?=some x)(hl:ls[k]?=some l)(hy:x++zbY l=y)
  (hd:∀ y∈(rows.take i).flatMap (fun r=>ls.map fun l=>r++zbY l),zcS zs (mkS (zbF f cols y))=true) (hdk:∀ y∈(ls.take k).map (fun l=>x++zbY l),zcS zs (mkS (zbF f cols y))=true) (hm:zcS zs (mkS (zbF f cols y))=false) :
  (rows.flatMap fun r=>ls.map fun l=>r++zbY l).find? (fun x=>!zcS zs (mkS (zbF f cols x)))=some y:=by
 have g:rows=rows.take i++x :: rows.drop (i+1):=by
  obtain⟨b,c⟩:=List.getElem?_eq_some_iff.1 hx;rw [← c,← gV b,j5]
 have d:ls=ls.take k++l :: ls.drop (k+1):=by
  obtain⟨b,c⟩:=List.getElem?_eq_some_iff.1 hl;rw [← c,← gV b,j5]
 have e:ls.map (fun l=>x++zbY l)=(ls.take k).map (fun l=>x++zbY l)++y :: (ls.drop (k+1)).map (fun l=>x++zbY l):=by
  conv=>lhs;rw [d]
  rw [fO,gZ,hy]
 refine find_pre (pre:=(rows.take i).flatMap (fun r=>ls.map fun l=>r++zbY l)++(ls.take k).map (fun l=>x++zbY l)) (post:=(ls.drop (k+1)).map (fun l=>x++zbY l)++(rows.drop (i+1)).flatMap (fun r=>ls.map fun l=>r++zbY l)) ?_ ?_ ?_
 ·conv=>lhs;rw [g]
  rw [jT,List.flatMap_cons,e];simp only [iZ,List.cons_append]
 ·intro y' hy';show (!zcS zs (mkS (zbF f cols y')))=false;rcases List.mem_append.1 hy' with a|a
  ·rw [hd y' a,Bool.not_true]
  ·rw [hdk y' a,Bool.not_true]
 ·show (!zcS zs (mkS (zbF f cols y)))=true;rw [hm,Bool.not_false]
theorem zeN {l:Nat}(h1:l<6):Calls Tryz.prog 138 #[l] w fun e w'=>e=.returned (.string (zbY l))∧Ext w w':=zfm h1
theorem zgK (h:Tch w A n B m B' m' s p L)(hT:TabAt w R nr C nc rows cols)(hI:zbX L (zo s p L) rows cols) :
  Calls Tryz.prog 212 #[.agg #[.bool false,(0:Int),(),(),s.al,s.st,.slice A n c,p.al,.slice B m d,.slice B' m' d',L],.agg #[.slice R nr cr,.slice C nc cc]] w fun e w'=>e=.returned (.tuple #[.string ((zaJ L (zo s p L) rows cols).getD ⟨#[]⟩),.bool (zaJ L (zo s p L) rows cols).isSome])∧Ext w w':=by
 obtain⟨e1,e2⟩:=hT.nr;have ah:=hI.r12;have af:=hI.c20;rw [e1] at ah;rw [e2] at af;have HA:=za (fun W (hW:Ext w W)=>zaU (c:=c) (d:=d) (d':=d') (h.ext hW));obtain⟨lo,hi,bd,a7,v,h2⟩:=hT;have HR:=za (fun W (hW:Ext w W)=>zeM (c:=c) (d:=d) (d':=d') (cc:=cc) (cr:=cr) (h.ext hW) (h2.ext hW) (v.ext hW) oM oM hI.rsz'.2 hI.rsz'.1);have HW:=za (fun W (hW:Ext w W) (y:ByteArray) D=>zfz (c:=c) (d:=d) (d':=d') (cc:=cc) (x:=y) (h.ext hW) (h2.ext hW) oM D hI.rsz'.2);have H1:=za (fun W (hW:Ext w W)=>v.ext hW);have hL:=h.lt;have ar:=za (fun x V=>hI.rin (x:=x) V);have M:(zaA (zo s p L) cols rows).length=nr:=by rw [zaA,eT];exact e1
 have ag:zaJ L (zo s p L) rows cols=(candL L rows).find? fun x=>!zcS (zaA (zo s p L) cols rows) (mkS (zbF (zo s p L) cols x)):=rfl;generalize zaJ L (zo s p L) rows cols=op at *;generalize zaA (zo s p L) cols rows=zs at *;have ae:=za ag;have aI:=za M;have He:=za e1;clear h v h2 hI e1 e2 ag M
 go_enter Tryz.func212,Tryz.ntmps212
 go_upto_region 1 with fail
 generalize U0:(w.alloc _).alloc _=w1 at *;obtain⟨u,b1,b2⟩:=Ext.x2_ U0;clear U0;have CB:=b1.cells;have CT:=b2.cells;have j:=dE w1;go_wp2_with (first
  |(go_at_call 133;refine (HA.out _ u).mono (mQ fun w2 ai=>?_))
  |(go_at_call 134;refine (zah L tM _).mono ?_;rintro e w3 ⟨HL,hc,rfl,H,aj⟩;have I:=ai.trans aj)
  |(go_at_call 135;refine (HR.out _ (u.trans I)).mono ?_;rintro e w4 ⟨G,g,rfl,F,X⟩;have b:=I.trans X))
 have O:=eW F;have HG:=za (fun W (hW:Ext w4 W)=>O.ext hW);have t:=zh H X;have aa:=za (fun W (hW:Ext w4 W)=>zh t hW);have az:=za (fun l (Z:l∈letters L 6)=>(zD.1 Z).1);have E:=za (show candL L rows=rows.flatMap fun r=>(letters L 6).map fun l=>r++zbY l from rfl);have a8:(letters L 6).length<=6:=zA L 6;generalize letters L 6=S at *;clear H t O F ai aj I X j;have j:=dE w4
 go_loopw [8] (fun iv wr=>∃ i:Nat,i<=nr∧iv=.int .i64 i∧Hid (∀ x∈(rows.take i).flatMap (fun r=>S.map fun l=>r++zbY l),zcS zs (mkS (zbF (zo s p L) cols x))=true)∧Ext w4 wr) (fun iv _=>nr - (intOf iv).toNat)
 case atStart=>exact⟨0,eC _,rfl,za (fun x V=>by simp at V),j⟩
 case round =>
  clear j;obtain⟨i,hi,rfl,o,f⟩:=hrel;have ap:=fun W (hW:Ext wr W)=>CT W (b.trans (f.trans hW));have j:=dE wr
  by_cases hlt:i<nr
  ·have aN:(i:Int)<(nr:Int):=oM;obtain⟨ad,x,rfl,_,_,V,cx⟩:=(H1.out wr (u.trans (b.trans f))).str hlt;have CX:∀ W,Ext wr W->W.cell? (ad.add i)=some (.string x):=fun W hW=>hW.aa cx;have bb:=(ar.out x (dG V.out)).2;have ak:=za V.out;clear cx V;go_wp2_with fail
   obtain⟨wo,aB⟩:∃ wo,wo=wr:=⟨_,rfl⟩;subst aB
   go_loopw [9] (fun kv wr=>∃ k:Nat,k<=S.length∧kv=.int .i64 k∧Hid (∀ y∈(S.take k).map (fun l=>x++zbY l),zcS zs (mkS (zbF (zo s p L) cols y))=true)∧Ext wo wr) (fun kv _=>S.length - (intOf kv).toNat)
   case atStart=>exact⟨0,eC _,rfl,za (fun y D=>by simp at D),j⟩
   case round =>
    clear j;obtain⟨k,hk,rfl,T,a⟩:=hrel
    by_cases hkl:k<S.length
    ·have aL:(k:Int)<(S.length:Int):=oM;obtain⟨l,Z⟩:∃ l,S[k]?=some l:=⟨_,dH hkl⟩;have ay:=az.out l (dG Z);have Y:=aa.out wr (f.trans a);obtain⟨gl,rfl,a5,-⟩:=zad Y oM;have cl:=zdd Y hkl;rw [List.getD_eq_getElem?_getD,Z,Option.getD_some] at cl;have CL:∀ W,Ext wr W->W.cell? ⟨gl,k,none⟩=some (.int .i64 (l:Nat)):=fun W hW=>hW.aa cl;have aU:=fun W (hW:Ext wr W)=>CX W (a.trans hW);have aS:=fun W (hW:Ext wr W)=>ap W (a.trans hW);have aQ:∀ W,Ext wr W->∀ q,W.cell? ⟨w.heap.size,q,none⟩=#[Value.bool false,.int .i64 0,.slice none 0 0,.slice none 0 0,.int .i64 s.al,.int .i64 s.st,.slice A n c,.int .i64 p.al,.slice B m d,.slice B' m' d',.int .i64 L][q]?:=fun W hW=>CB W ((b.trans (f.trans a)).trans hW);have HT:=za (fun W=>zeN (w:=W) ay);have Hl:=za Z;obtain⟨z,hz⟩:∃ z,Hid (zbY l=z):=⟨_,rfl⟩;rw [hz.out] at HT;have bc:z.size=1:=by rw [← hz.out];exact zcC l
     have a9:¬ 9223372036854775807<x.size+1:=oM;have ab:=za (fun W (hW:Ext wr W)=>HW.out W ((u.trans (b.trans (f.trans a))).trans hW) (x++z) (by rw [ByteArray.size_append];omega));have aq:=za (fun W (hW:Ext wr W)=>HG.out W ((f.trans a).trans hW));have j:=dE wr;obtain⟨y,D⟩:∃ y,x++z=y:=⟨_,rfl⟩;rw [D] at ab;have am:Hid (x++zbY l=y):=by unfold Hid;rw [hz.out];exact D
     clear Z cl Y;go_wp2_with fail
     go_region_held3 (fun W=>Ext wr W) (first|assumption|(refine gG ?_;assumption)|(refine fI ?_ aM;assumption)|(refine fI ?_ aM;refine gG ?_;assumption)) (first
      |(go_at_call 138;refine (HT.out _).mono (mQ fun w7 ba=>?_)))
     have Q:Ext wr w7:=aM;clear D;cases hm:zcS zs (mkS (zbF (zo s p L) cols y))
     all_goals
      have Hm:=za hm;clear hm;go_wp2_with (first
       |(go_at_call 137;refine (ab.out _ Q).mono (mQ fun w8 aC=>?_);have J:=Q.trans aC)
       |(go_at_call 228;with_reducible refine (zdT (aq.out _ J)).mono ?_;rw [Hm.out];rintro e w9 ⟨rfl,rfl⟩))
     ·have U:=za (show op=some y by
       rw [ae.out,E.out];exact open_find ak.out Hl.out am.out o.out T.out Hm.out)
      go_ret2;exact⟨by rw [U.out];rfl,u.trans (b.trans (f.trans (a.trans J)))⟩
     ·go_roundw
      case rel=>exact⟨k+1,oM,gM,za (fun y' hy'=>by
       rw [eG,Hl.out,fO] at hy';rcases List.mem_append.1 hy' with v|v
       ·exact T.out y' v
       ·simp at v;rw [v,am.out];exact Hm.out),a.trans J⟩
      case measure=>simp [intOf];omega
    ·have ax:(S.length:Int)<=(k:Int):=oM;go_wp2_with fail
     go_roundw
     case rel=>exact⟨i+1,oM,gM,za (fun y D=>by
      rw [eG,ak.out,jT] at D;rcases List.mem_append.1 D with v|v
      ·exact o.out y v
      ·refine T.out y ?_;rw [eF oM];simpa using v),f.trans a⟩
     case measure=>simp [intOf];omega
  ·have ax:(nr:Int)<=(i:Int):=oM;have aA:=za (show op=none by
    rw [ae.out,E.out,List.find?_eq_none];intro y D;have:=o.out y (by rw [eF (oH He.out)];exact D);rw [this];decide)
   go_wp2_with fail
   go_ret2;exact⟨by rw [aA.out];rfl,u.trans (b.trans f)⟩
end
end Go.Proofs.YtckbjnndaaoddaaGreatDoor
