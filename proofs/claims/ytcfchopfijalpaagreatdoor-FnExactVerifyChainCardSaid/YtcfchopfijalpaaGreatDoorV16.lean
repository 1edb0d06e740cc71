/- The laws' ow -/
import Derived.Test.YtcfchopfijalpaaGreatDoorV02
import Derived.Deep.DeepCutAuto
import Derived.Deep.CutBlock
set_option maxHeartbeats 2000000
set_option maxRecDepth 100000
namespace Go.Proofs.YtcfchopfijalpaaGreatDoor
open Go Go.RowKit
open List renaming getElem?_set_ne->fN,take_of_length_le->eE
variable {A:Option Addr} {base c hi j k m n:Nat} {ns:List Nat} {w w':World} {xs:List Value}
def mkE (k n:Nat):List Edg:=(List.range n).map fun j:Nat=>⟨(k+j*3:Nat),(k+j*3+1:Nat),(k+j*3+2:Nat)⟩
theorem mkE_length (k n:Nat):(mkE k n).length=n:=by simp [mkE]
theorem mkE_get (h:j<n):(mkE k n)[j]?=some ⟨(k+j*3:Nat),(k+j*3+1:Nat),(k+j*3+2:Nat)⟩:=by simp [mkE,h]
theorem ziI (h:w.ownsRow base 152 3 (.slice A n c) n xs)(hk:k+n*3<=4611686018427387904) :
  Calls Tryz.prog 65 #[.slice A n c,k] w fun e w'=>e=.returned (.int .i64 (k+n*3:Nat))∧w'.ownsRow base 152 3 (.slice A n c) n (zx (mkE k n))∧Frm (blk A) w w':=by
 have l:=za h.1
 go_enter Tryz.func65,Tryz.ntmps65
 go_wp2
 go_loopw [1,5] (fun v i wr=>∃ j:Nat,j<=n∧i=.int .i64 j∧v=.int .i64 (k+j*3:Nat)∧∃ b:List Value,Hid (b.length=(n - j)*3)∧wr.ownsRow base 152 3 (.slice A n c) n (zx ((mkE k n).take j)++b)∧Frm (blk A) w wr) (fun _ i _=>n - (intOf i).toNat)
 case atStart=>exact⟨0,Nat.zero_le _,rfl,rfl,xs,by unfold Hid;rw [l.out];omega,by simpa [zx] using h,Frm.refl _ _⟩
 case round =>
  obtain⟨j,B,rfl,rfl,b,d,a,m⟩:=hrel
  by_cases hlt:j<n
  ·obtain⟨g,rfl,z,_⟩:=zao a oM;obtain⟨C,s⟩:=zab a (j*3) oM;obtain⟨D,t⟩:=zab a (j*3+1) oM;obtain⟨E,u⟩:=zab a (j*3+2) oM;have o:=a.frozenAt (j*3);have q:=a.frozenAt (j*3+1);have r:=a.frozenAt (j*3+2);have f:=zfL a (j*3) (.int .i64 ((k+j*3:Nat):Int)) (.int .i64 ((k+j*3+1:Nat):Int)) (.int .i64 ((k+j*3+2:Nat):Int));rw [zhZ (e:=⟨(k+j*3:Nat),(k+j*3+1:Nat),(k+j*3+2:Nat)⟩) (mkE_get hlt) (by rw [d.out];omega)] at f;rw [show ((k+j*3+1:Nat):Int)=(k:Int)+j*3+1 by omega,show ((k+j*3+2:Nat):Int)=(k:Int)+j*3+1+1 by omega,show ((k+j*3:Nat):Int)=(k:Int)+j*3 by omega] at f;have y:(k:Int)+(j:Int)*3+3<=4611686018427387904:=oM;have x:(0:Int)<=(k:Int)+(j:Int)*3:=oM;go_wp2;go_roundw
   case rel=>exact⟨j+1,oM,gM,gM,b.drop 3,by have:=d.out;unfold Hid;rw [List.length_drop];omega,f,((m.cell (p:=⟨g,j*3,none⟩) ⟨⟨g,0,none⟩,rfl,rfl⟩ _).cell (p:=⟨g,j*3+1,none⟩) ⟨⟨g,0,none⟩,rfl,rfl⟩ _).cell (p:=⟨g,j*3+2,none⟩) ⟨⟨g,0,none⟩,rfl,rfl⟩ _⟩
   case measure=>simp [intOf];omega
  ·obtain rfl:n=j:=oM;obtain rfl:b=[]:=List.eq_nil_of_length_eq_zero (oH d.out);rw [List.append_nil,eE (by rw [mkE_length];omega)] at a;go_wp2;go_ret;exact⟨rfl,a,m⟩
theorem own_same {e:TypeId} {size d:Nat} {B:Option Addr} {xs' ys:List Value}(h:w.ownsRow base e size (.slice A n c) n xs)(h2:w.ownsRow base e size (.slice B m d) m ys)(h':w'.ownsRow base e size (.slice A n c) n xs')(hf:Frm (blk A) w w'):∃ ys',w'.ownsRow base e size (.slice B m d) m ys':=by
 have r:=h2;obtain⟨T,h2⟩:=h2;rcases h2 with ⟨k,O⟩|⟨g,z,l,k,I,M,v,F,G,X⟩
 ·exact⟨ys,T,.inl ⟨k,O⟩⟩
 ·by_cases hb:blk A g
  ·obtain⟨a,rfl,x⟩:=hb;obtain⟨l1,E⟩:=h;obtain⟨S,q⟩:=h';rcases E with ⟨o,Q⟩|⟨D,t,j,o,J,i,Y,Z,R,k6⟩
   ·cases o
   rcases q with ⟨p,Q⟩|⟨V,u,f,C,L,s,m3,m4,U,m6⟩
   ·cases p
   cases o;cases C;cases k;dsimp only at x;subst x;have H:l=j:=by
    rw [M] at i;injection i with i
    injection i
   subst H;have y:f.size=d*size:=by rw [U,← R,G]
   refine⟨f.toList.take (m*size),?_,.inr ⟨D,d,f,rfl,I,s,v,F,y,rfl⟩⟩;rw [List.length_take,Array.length_toList,y];exact Nat.min_eq_left (Nat.mul_le_mul_right _ v)
  ·refine⟨ys,zh r hf fun b hb' hS=>hb ?_⟩;rw [k] at hb';simp only [Value.ownBlock,Option.some.injEq] at hb';rw [hb'];exact hS
def MkR (w:World) (base hi:Nat) (cells:List Value) (ns:List Nat):Prop:=
 ∀ (k m:Nat),ns[k]?=some m->∃ (B:Option Addr) (d:Nat) (xs:List Value),cells[k*3+2]?=some (.slice B m d)∧w.ownsRow base 152 3 (.slice B m d) m xs∧∀ b,(Value.slice B m d).ownBlock=some b->b<hi
def MkS (w:World) (base hi:Nat) (A:Option Addr) (n c:Nat) (ns:List Nat):Prop:=
 ns.length=n∧∃ cells,w.ownsRow base 38 3 (.slice A n c) n cells∧(∀ b,(Value.slice A n c).ownBlock=some b->b<hi)∧MkR w base hi cells ns
theorem MkS.ext (h:MkS w base hi A n c ns)(hb:Ext w w'):MkS w' base hi A n c ns:=by
 obtain⟨e,a,b,f,g⟩:=h;refine⟨e,a,zg b hb,f,fun k m hk=>?_⟩;obtain⟨B,d,o,i,j,l⟩:=g k m hk;exact⟨B,d,o,i,zg j hb,l⟩
theorem OwnSL.mk {ss:List Sys}(h:OwnSL w base A n c ss):MkS w base w.heap.size A n c (ss.map fun s=>s.edges.length):=by
 obtain⟨e,a,f,g⟩:=h;refine⟨by rw [List.length_map,e],a,f,fun b hb=>(f.lt b hb).2,fun k m hk=>?_⟩;rw [List.getElem?_map] at hk;obtain⟨s,i,rfl⟩:=Option.map_eq_some_iff.1 hk;obtain⟨B,m,c,l,o,j,d⟩:=g.2 k s i;obtain rfl:m=s.edges.length:=d.1;exact⟨B,c,_,j,d.2,fun b hb=>(d.2.lt b hb).2⟩
theorem MkR.cell {g:Nat} {cells cs2 cs3:List Value}  {u:Value}(h:MkR w base hi cells ns)(ho:w.ownsRow base 38 3 (.slice (some g) n c) n cs2)(he:∀ k,cs3[k*3+2]?=cells[k*3+2]?):MkR (w.setCell ⟨g,j,none⟩ u) base hi cs3 ns:=by
 intro k m hk;obtain⟨B,d,l,f,a,i⟩:=h k m hk;refine⟨B,d,l,by rw [he];exact f,zh a (Frm.setCell w g j u) fun b hb hbg=>?_,i⟩;subst hbg;exact zaP a ho dM hb rfl
theorem sum_take (h:ns[j]?=some m):(ns.take (j+1)).sum=(ns.take j).sum+m:=by
 rw [List.take_add_one,h];simp
theorem sum_take_le (ns:List Nat) (j:Nat):(ns.take j).sum<=ns.sum:=by
 have:ns.sum=(ns.take j).sum+(ns.drop j).sum:=by rw [← List.sum_append,List.take_append_drop]
 omega
theorem markSystemS_any (h:MkS w base hi A n c ns)(hk:k+n*2+ns.sum*3<=4611686018427387904) :
  Calls Tryz.prog 34 #[.slice A n c,k] w fun e w'=>e=.returned (.int .i64 (k+n*2+ns.sum*3:Nat))∧Frm (fun b=>base<=b∧b<hi) w w':=by
 obtain⟨t,C,l,x,f⟩:=h;have s:=za t;have HL:=za x;clear t x
 go_enter Tryz.func34,Tryz.ntmps34
 go_wp2
 go_loopw [1,5] (fun v i wr=>∃ j:Nat,j<=n∧i=.int .i64 j∧v=.int .i64 (k+j*2+(ns.take j).sum*3:Nat)∧∃ I:List Value,wr.ownsRow base 38 3 (.slice A n c) n I∧MkR wr base hi I ns∧Frm (fun b=>base<=b∧b<hi) w wr) (fun _ i _=>n - (intOf i).toNat)
 case atStart=>exact⟨0,Nat.zero_le _,rfl,sM,C,l,f,Frm.refl _ _⟩
 case round =>
  clear l f;obtain⟨j,hj,rfl,rfl,I,l,f,V⟩:=hrel
  by_cases hlt:j<n
  ·obtain⟨m,Z⟩:∃ m,ns[j]?=some m:=⟨_,List.getElem?_eq_getElem (by rw [s.out];exact hlt)⟩;have r:=sum_take Z;have Y:=sum_take_le ns (j+1);obtain⟨z,hz⟩:∃ z,Hid ((ns.take j).sum=z):=⟨_,rfl⟩;rw [hz.out] at r ⊢;obtain⟨g,rfl,hg,-⟩:=zao l oM;have J:=HL.out g rfl;obtain⟨B,d,xs,r1,r2,r3⟩:=f j m Z;have HB:=za r3;obtain⟨o0,g0⟩:=zab l (j*3) oM;obtain⟨o1,g1⟩:=zab l (j*3+1) oM;have g2:wr.cell? ⟨g,j*3+2,none⟩=some (.slice B m d):=by rw [l.cellAt (j*3+2) oM];exact r1
   have f0:=l.frozenAt (j*3);have f1:=l.frozenAt (j*3+1);have G:=(l.stored (j*3) (.int .i64 ((k:Int)+j*2+z*3))).1;have H:=(G.stored (j*3+1) (.int .i64 ((k:Int)+j*2+z*3+1))).1;have F:=(f.cell (j:=j*3) (u:=.int .i64 ((k:Int)+j*2+z*3)) (cs3:=I.set (j*3) (.int .i64 ((k:Int)+j*2+z*3))) l (fun q=>fN oM)).cell (j:=j*3+1) (u:=.int .i64 ((k:Int)+j*2+z*3+1)) (cs3:=(I.set (j*3) (.int .i64 ((k:Int)+j*2+z*3))).set (j*3+1) (.int .i64 ((k:Int)+j*2+z*3+1))) G (fun q=>fN oM);have o:=(V.cell (p:=⟨g,j*3,none⟩) ⟨hg,J⟩ (.int .i64 ((k:Int)+j*2+z*3))).cell (p:=⟨g,j*3+1,none⟩) ⟨hg,J⟩ (.int .i64 ((k:Int)+j*2+z*3+1));have g3:((wr.setCell ⟨g,j*3,none⟩ (.int .i64 ((k:Int)+j*2+z*3))).setCell ⟨g,j*3+1,none⟩ (.int .i64 ((k:Int)+j*2+z*3+1))).cell? ⟨g,j*3+2,none⟩=some (.slice B m d):=by
    rw [H.cellAt (j*3+2) oM,fN oM,fN oM];exact r1
   have h1:(k:Int)+(j:Int)*2+(z:Int)*3+2<=4611686018427387904:=oM;have h0:(0:Int)<=(k:Int)+(j:Int)*2+(z:Int)*3:=oM;obtain⟨B',d',ax,e1,e2,e3⟩:=F j m Z;rw [fN oM,fN oM,r1] at e1;cases e1;have X:=za (show k+j*2+z*3+2+m*3<=4611686018427387904 by omega);have O:=za r;have L:=za e2;have HR:=za F;have HO:=za H;have HF:=za o;clear G H F o f V r2 r3 r e2 e3 l g2 xs Y;go_upto_region 8 with fail
   obtain⟨q,M⟩:∃ q:Nat,(q:Int)=(k:Int)+j*2+z*3+1+1:=⟨k+j*2+z*3+2,oM⟩;rw [← M];have Hq:=za M;clear M;generalize (wr.setCell ⟨g,j*3,none⟩ (.int .i64 ((k:Int)+j*2+z*3))).setCell ⟨g,j*3+1,none⟩ (.int .i64 ((k:Int)+j*2+z*3+1))=w1 at *;go_wp2_with (go_at_call 65;refine (ziI (k:=q) L.out (by have:=Hq.out;have:=X.out;omega)).mono ?_;rintro e w2 ⟨rfl,ad,o⟩)
   have M:=Hq.out;have r:=O.out;have S:MkR w2 base hi ((I.set (j*3) (.int .i64 ((k:Int)+j*2+z*3))).set (j*3+1) (.int .i64 ((k:Int)+j*2+z*3+1))) ns:=by
    intro i y hy;obtain⟨E,d2,ys,y1,y2,y3⟩:=HR.out i y hy;obtain⟨zs,aa⟩:=own_same L.out y2 ad o;exact⟨E,d2,zs,y1,aa,y3⟩
   have R:=zh HO.out o (fun b hb hS=>by
    obtain⟨a,U,D⟩:=hS;subst U;exact zaP HO.out L.out dM hb (by simp [Value.ownBlock,D]))
   have Q:=HF.out.trans (o.mono (T:=fun b=>base<=b∧b<hi) (fun b _ hS=>by
    obtain⟨a,U,D⟩:=hS;subst U;subst D;exact⟨(L.out.lt _ rfl).1,HB.out _ rfl⟩))
   go_roundw
   case rel=>exact⟨j+1,oM,gM,by congr 1;omega,_,R,S,Q⟩
   case measure=>simp [intOf];omega
  ·obtain rfl:n=j:=oM;rw [eE (oH s.out)];go_wp2;go_ret;exact⟨rfl,V⟩
theorem leftOf_room {l:Int} (h:¬ leftOf l n<0)(hl:l<=1048576):n<=1048576:=by
 unfold leftOf at h
 split at h<;>omega
end Go.Proofs.YtcfchopfijalpaaGreatDoor
