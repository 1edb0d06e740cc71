/- spec.ParseAu -/
import Derived.Test.YtcfchopfijalpaaGreatDoorE16
set_option maxHeartbeats 4000000
set_option maxRecDepth 100000
namespace Go.Proofs.YtcfchopfijalpaaGreatDoor
open Go Go.RowKit
open Blk renaming new->dV
open Bool renaming and_eq_true->dG
open Ext renaming eq_->eP,refl->cY
open Frm renaming setCell->dE
open List renaming mem_of_getElem?->dB,take_of_length_le->dI
open Nat renaming eq_zero_or_pos->gK,le_refl->dD,le_trans->dJ,zero_add->dT,zero_le->dF
open Reads renaming af->eA
variable {A B B' C:Option Addr} {J K L M R c c2 d d' hi k lo m m' n q:Nat} {S:Nat->Prop} {W w w' w1:World} {a p:Aut} {hd:Bool} {s t:Sys} {ss:List Sys} {v:Value} {x:ByteArray}
def RetParA (R M L:Nat) (w:World) (e:Ending) (w':World):Prop:=
 ∃ (b:Aut) (A:Option Addr) (n c:Nat) (A':Option Addr) (n' c':Nat) (ok:Bool),e=.returned (.tuple #[.agg #[b.al,.slice A n c,.slice A' n' c'],.bool ok])∧zac w' w.heap.size A n c A' n' c' b∧Hid (BdA L b)∧Rd w' R M∧Dr R w w'
theorem zjY {Z:Nat} (hR:R<w.heap.size)(h:Rd W R M)(hd:Dr R w W)(hZ:w.heap.size<=Z) :
  Hid (RetParA R M L w (.returned (.tuple #[.agg #[(0:Int),(),()],.bool false])) (((W.setCell Z (0:Int)).setCell ⟨Z,1,none⟩ ()).setCell ⟨Z,2,none⟩ ())):=
 za ⟨⟨0,[],[]⟩,none,0,0,none,0,0,false,rfl,⟨⟨[],World.ownsRow_nil _ _ _ _,zH.nil _ _⟩,rfl,World.ownsRow_nil _ _ _ _,rfl⟩,za ⟨dF _,dF _,fun l hl=>by simp at hl⟩,h.frm (zaw W Z _ _ _) (fun k hk e=>oM),((hd.ag (p:=⟨Z,0,none⟩) hZ _).ag (p:=⟨Z,1,none⟩) hZ _).ag (p:=⟨Z,2,none⟩) hZ _⟩
theorem yE17a1 {P:Prop}(h:P:=by
 go_wp2_with fail
 have hfb:=zaI bz4 rfl (.int .i64 0) (.slice none 0 0) (.slice none 0 0);have cf:=hfb.cell;exact bodyPost_ret (v:=.tuple #[.agg #[(0:Int),(),()],.bool false]) (by simp [results,Tryz.results192,go_sem,cf]) rfl hno4.out
 ):P:=h
theorem yE17a3 {P:Prop}(h:P:=by
 have cf:=hfb.cell;exact bodyPost_ret (v:=.tuple #[.agg #[(0:Int),(),()],.bool false]) (by simp [results,Tryz.results192,go_sem,cf]) rfl hno.out
 ):P:=h
theorem zfV (h:Rd w R M)(hx:x.size<=1000) :
  Calls Tryz.prog 192 #[x] w (RetParA R M (x.size+1) w):=by
 have E:=h.lt
 go_enter Tryz.func192,Tryz.ntmps192
 go_wp2_with fail
 generalize U0:w.alloc _=w0 at *;have o:=Ext.al_ U0;have bz:=Ext.bl_ U0;have a2:=bz.lt;clear U0;refine (spec_l19Cut1 (s:=x) oM).mono ?_;rintro e w1 ⟨B,m,d,l,rfl,av,ag,ak,y,hm,a1⟩;have aJ:=za y;have bo:=za av;have bM:m<=1001:=oM;clear y av;obtain⟨gB,rfl,bJ,-⟩:=zU ak ag;obtain⟨ad,x0,ab,-,-,bi,ap⟩:=(eA ak).str (k:=0) ag;obtain rfl:=Option.some.inj ab;rw [zY,Nat.add_zero] at ap;have bh:(0:Int)<(m:Int):=oM;go_wp2_with fail
 refine (zdO (x:=x0)).mono ?_;rintro e w2 ⟨S,a4,rfl,ha,az⟩;have u:=a1.trans az;have aa:=bz.ext u;have aK:=aa.cell;have aL:=aa.frozen;have hno:=zjY (L:=x.size+1) (M:=M) (Z:=w.heap.size) E (h.ext (o.trans u)) (o.trans u).dr (dD _);cases a4
 ·go_wp2_with fail
  have hfb:=zaI aa rfl (.int .i64 0) (.slice none 0 0) (.slice none 0 0);exact yE17a3
 ·have bG:=dV w2 31 #[S,(),()];have ah:=(cY w2).alloc (.cells #[S,(),()] 31);have aY:=u.size;have aE:=zh ak az;have bH:=za (show ∀ W,Ext w2 W->Ext w W from fun W hW=>(o.trans u).trans hW);go_upto_region 6 with fail
  have aF:=zh aE ah;have f:zbX w0 (w2.alloc (.cells #[S,(),()] 31)) R w2.heap.size M S (.slice none 0 0) [] [] (.slice none 0 0) []:=⟨bG,World.ownsRow_nil _ _ _ _,zH.nil _ _,World.ownsRow_nil _ _ _ _,(h.ext (o.trans u)).ext ah,(u.trans ah).dr,oM,aY⟩;generalize w2.alloc _=w3 at *;generalize w2.heap.size=G at *;clear hno aK aL ap aE;go_wp2_with fail
  go_loopw [8] (fun iv wr=>∃ (i:Nat) (v:Value) (q:List Value) (n:List (List Int)) (vA:Value) (g:List Bool),1<=i∧i<=m∧iv=.int .i64 (i:Nat)∧zbX w0 wr R G M S v q n vA g∧Hid (n.length<=i - 1)∧Hid (g.length=n.length)∧Hid (∀ l∈n,l.length<=x.size+1)∧wr.ownsRow w0.heap.size 9 1 (.slice (some gB) m d) m (zS l)) (fun iv _=>m - (intOf iv).toNat)
  case atStart=>exact⟨1,_,_,[],_,[],dD _,ag,rfl,f,za (dF _),za rfl,za (fun l hl=>by simp at hl),aF⟩
  case round =>
   clear f aF;obtain⟨i,v,q,n,vA,g,bK,hi,rfl,f,H,ae,y,I⟩:=hrel;have hno:=zjY (L:=x.size+1) (M:=M) (Z:=w.heap.size) E f.rd (o.dr.trans f.dr) (dD _);have D:=bz.dr f.dr oM
   by_cases hlt:i<m
   ·obtain⟨ad,C,ab,-,-,aA,aq⟩:=(eA I).str hlt;obtain rfl:=Option.some.inj ab;rw [zY,dT] at aq;have bF:=aJ.out C (dB aA.out);cases he:C.toList.isEmpty
    ·have bC:1<=C.size:=by
      rcases gK C.size with h0|h0
      ·rw [ByteArray.toList_eq] at he;have e2:C.data.toList.length=C.size:=rfl;rw [List.eq_nil_of_length_eq_zero (e2.trans h0)] at he;cases he
      ·exact h0
     have bf:(1:Int)<=(C.size:Int):=oM;have bI:(C.extract 1 C.size).size<=x.size:=by rw [ByteArray.size_extract];omega
     go_wp2_with fail
     refine (spec_l3Parse (s:=C.extract 1 C.size) oM).mono ?_;rintro e w4 ⟨Ar,nr,cr,lr,ok,rfl,aU,ax,bN,j⟩;cases ok
     ·have hno4:=zjY (L:=x.size+1) (M:=M) (Z:=w.heap.size) E (f.rd.ext j) ((o.dr.trans f.dr).ext j) (dD _);have bz4:=D.ext j;have cz:=bz4.cell;have fz:=bz4.frozen;exact yE17a1
     ·subst aU;have ar:=za f.low;have aX:=za f.dr.size;have c:=f.ext j;have r:=zh I j;have cG:=c.blk.cell;have aZ:=c.dr.size;have bL:n.length<=1001:=oH H.out;have an:=za aA.out;have aw:=hno;clear f I aq hno aw;go_upto_region 15 with (at_builtin;refine zad w0 w4 rfl _ _ _ rfl 128 _ 1 24 Tryz.underlying25 zcw rfl dM v n.length q _ _ rfl rfl aZ c.nx rfl (zbd _ _ _) lM oM ?_;intro g5 cap5 w6 hown6 hg6 hat6 hlt6;obtain⟨q1,q2,q3⟩:=c.ax ar.out aX.out ax hown6 hg6 hat6;have a5:=q1.out;have t:=(zg r (Frm.ae hg6) (fun b hb hS=>zaG r c.nx dM hb hS)))
      have J:=zg t (dE w6 G 1 (.slice (some g5) (n.length+1) cap5)) (fun b hb hS=>by
       have aQ:Blk w6 G 31 #[.int .i64 S,v,vA]:=(hg6.block G c.blk.lt (fun e=>zr c.nx c.blk dM e.symm rfl)).trans c.blk;exact zr t aQ dM hb hS)
      have V:=za (show (n++[lr]).length<=i by have:=H.out;simp;omega);have U:=za (show g.length+1=(n++[lr]).length by have:=ae.out;simp;omega);have au:=za (show ∀ l'∈n++[lr],l'.length<=x.size+1 from fun l' hl'=>by
       rcases List.mem_append.1 hl' with h1|h1
       ·exact y.out l' h1
       ·rw [List.mem_singleton.1 h1];omega)
      clear q1 a5 q2 hown6 hg6 hat6 hlt6 t r c cG H ae y ax;generalize n++[lr]=a3 at *;generalize q++[.slice Ar lr.length cr]=a7 at *;generalize w6.setCell ⟨G,1,none⟩ (.slice (some g5) (n.length+1) cap5)=w7 at *;generalize Value.slice (some g5) (n.length+1) cap5=v7 at *;obtain⟨bq,z,ao,-,-,Y,F⟩:=(eA J).str hlt;obtain rfl:=Option.some.inj ao;rw [zY,dT] at F;obtain rfl:z=C:=Option.some.inj (Y.out.symm.trans an.out);have cG:=fun W (hW:Ext w7 W)=>(q3.blk.ext hW).cell;have cS:∀ W,Ext w7 W->W.cell? ⟨gB,i,none⟩=some (.string z):=fun W hW=>hW.aa F;have aO:0<z.size:=oM;have be:(0:Int)<(z.size:Int):=oM;have bD:=zcX z 0 aO;obtain⟨bb,bE⟩:∃ bb,((z[0].toNat:Int)==43)=bb:=⟨_,rfl⟩;have a0:=cY w7;clear F Y an;refine uR (fun X=>Ext w7 X) [9,11] (zv.of [0,1,2,3,4,5,6,7,8,9,10,11]) ?_;refine uQ ?_;have ai:=a0.drew;refine ze fun K hK=>?_;go_simp;refine hK.out _ _ (ai.alloc _) ?_;refine pT ?_;refine zb fun K hK=>?_;have bO:=q3.dr.size;have p:=q3.ext ai;have bg:g.length<=1001:=by have:=U.out;have:=V.out;omega
      have O:=zh J ai;refine zaN w0 w7.drew _ _ _ rfl 4 _ 1 1 Tryz.underlying26 zbj rfl dM vA g.length (zaq g) _ _ rfl rfl p.dr.size p.acc rfl (by simp [Value.oneCell']) lM oM ?_;intro g8 cap8 w8 hown8 hg8 hat8 hlt8;refine hK.out _ _ ?_;refine pT ?_;refine uQ ?_;obtain⟨p1,p2,p3⟩:=p.aq (x:=bb) (W':=w8) hown8 hg8 hat8;have bT:=p1.out;have Q:=zg O (Frm.ae hg8) (fun b hb hS=>zaG O p.acc dM hb hS);have T:=zg Q (dE w8 G 2 (.slice (some g8) (g.length+1) cap8)) (fun b hb hS=>by
       have aR:Blk w8 G 31 #[.int .i64 S,v7,vA]:=(hg8.block G p.blk.lt (fun e=>zr p.acc p.blk dM e.symm rfl)).trans p.blk;exact zr Q aR dM hb hS)
      refine zb fun K hK=>?_;go_simp;refine hK.out _ _ ?_;refine zf ?_;go_wp2_with fail
      go_roundw
      case rel=>exact⟨i+1,_,_,a3,_,g++[bb],oM,oM,gM,p3,za (oH V.out),za (by have:=U.out;simp;omega),au,T⟩
      case measure=>simp [intOf];omega
    ·have cz:=D.cell;have fz:=D.frozen;go_wp2_with fail
     have hfb:=zaI D rfl (.int .i64 0) (.slice none 0 0) (.slice none 0 0);exact yE17a3
   ·obtain⟨A5,c5,rfl⟩:=zi f.nx;obtain⟨B5,d5,rfl⟩:=zi f.acc;have aS:zJ wr w0.heap.size wr.heap.size A5 n.length B5 g.length (⟨S,n,g⟩:Aut):=⟨zgc.reads ⟨q,f.nx,f.rows⟩ rfl,rfl,eA f.acc⟩;have cG:=f.blk.cell;clear hno;go_wp2_with fail
    refine (zfu (a:=⟨S,n,g⟩) aS).mono ?_;rintro e w4 ⟨tx,rfl,-,j⟩;have c:=f.ext j;have hno4:=zjY (L:=x.size+1) (M:=M) (Z:=w.heap.size) E (f.rd.ext j) ((o.dr.trans f.dr).ext j) (dD _);have bz4:=D.ext j;have cz:=bz4.cell;have fz:=bz4.frozen;have bw:=c.blk.cell;clear cG;cases hne:tx.toList==x.toList
    ·exact yE17a1
    ·obtain⟨f1,f2⟩:=c.fin (N:=M) (sh:=BdA (x.size+1)) o bz rfl E (dD _) a2 (dD _) ⟨by have:=H.out;show n.length<=_;omega,by have:=H.out;have:=ae.out;show g.length<=_;omega,y.out⟩;go_wp2_with fail
     have cf:=f2.cell;obtain⟨b,A6,n6,c6,A7,n7,c7,he,aV,ay,aW,aT⟩:=f1.out;exact bodyPost_ret (v:=.tuple #[.agg #[S,.slice A5 n.length c5,.slice B5 g.length d5],.bool true]) (by simp [results,Tryz.results192,go_sem,cf]) rfl ⟨b,A6,n6,c6,A7,n7,c7,true,by injection he with he;rw [he],aV,ay,aW,aT⟩
def Texts3 (W:World) (base g n:Nat):Prop:=
 ∀ k<n,∃ (b:Nat) (l:List ByteArray),W.cell? ⟨g,k,none⟩=some (.slice (some b) 3 3)∧l.length=3∧((∀ x∈l,x.size<=100)∧∀ x,l[2]?=some x->x.size<=40)∧W.ownsRow base 9 1 (.slice (some b) 3 3) 3 (zS l)
def RetT3 (w:World) (e:Ending) (w':World):Prop:=∃ g,e=.returned (.slice (some ⟨g,0,none⟩) 9 9)∧w.heap.size<=g∧Texts3 w' w.heap.size g 9∧Ext w w'
def Sh3 (u:Array Value):Prop:=zS (u.toList.map zkn)=u.toList∧u.size=3∧(∀ x∈u.toList.map zkn,x.size<=100)∧∀ x∈(u.toList.map zkn).drop 2,x.size<=40
theorem Sh3.ak {u:Array Value}(h:Sh3 u):(u.toList.map zkn).length=3∧(∀ x∈u.toList.map zkn,x.size<=100)∧∀ x,(u.toList.map zkn)[2]?=some x->x.size<=40:=by
 obtain⟨-,a,b,c⟩:=h;refine⟨by simp [a],b,fun x hx=>c x ?_⟩;have d:=(List.getElem?_eq_some_iff.1 hx).1;rw [List.mem_iff_getElem?];exact⟨0,by rw [List.getElem?_drop];exact hx⟩
theorem lit9 (w:World) {u1 u2 u3 u4 u5 u6 u7 u8 u9:Array Value}(h1:Sh3 u1)(h2:Sh3 u2)(h3:Sh3 u3)(h4:Sh3 u4)(h5:Sh3 u5)(h6:Sh3 u6)(h7:Sh3 u7)(h8:Sh3 u8)(h9:Sh3 u9) :
  RetT3 w (.returned (.slice (some ⟨w.heap.size+9,0,none⟩) 9 9)) ((((((((((w.alloc (.cells u1 9)).alloc (.cells u2 9)).alloc (.cells u3 9)).alloc (.cells u4 9)).alloc (.cells u5 9)).alloc (.cells u6 9)).alloc (.cells u7 9)).alloc (.cells u8 9)).alloc (.cells u9 9)).alloc (.cells #[.slice (some w.heap.size) 3 3,.slice (some ⟨w.heap.size+1,0,none⟩) 3 3,.slice (some ⟨w.heap.size+2,0,none⟩) 3 3,.slice (some ⟨w.heap.size+3,0,none⟩) 3 3,.slice (some ⟨w.heap.size+4,0,none⟩) 3 3,.slice (some ⟨w.heap.size+5,0,none⟩) 3 3,.slice (some ⟨w.heap.size+6,0,none⟩) 3 3,.slice (some ⟨w.heap.size+7,0,none⟩) 3 3,.slice (some ⟨w.heap.size+8,0,none⟩) 3 3] 99)):=by
 have T:=zbF w h1.1 h1.2.1 oM;have X:=(cY w).alloc (.cells u1 9);have v:(w.alloc (.cells u1 9)).heap.size=w.heap.size+1:=sM;generalize w.alloc (.cells u1 9)=b at *;have n:=zbF b h2.1 h2.2.1 oM;have Y:=(cY b).alloc (.cells u2 9);have y:(b.alloc (.cells u2 9)).heap.size=w.heap.size+2:=by simp [v]
 rw [v] at n;generalize b.alloc (.cells u2 9)=c at *;have o:=zbF c h3.1 h3.2.1 oM;have Z:=(cY c).alloc (.cells u3 9);have z:(c.alloc (.cells u3 9)).heap.size=w.heap.size+3:=by simp [y]
 rw [y] at o;generalize c.alloc (.cells u3 9)=d at *;have p:=zbF d h4.1 h4.2.1 oM;have x4:=(cY d).alloc (.cells u4 9);have B:(d.alloc (.cells u4 9)).heap.size=w.heap.size+4:=by simp [z]
 rw [z] at p;generalize d.alloc (.cells u4 9)=f at *;have q:=zbF f h5.1 h5.2.1 oM;have x5:=(cY f).alloc (.cells u5 9);have C:(f.alloc (.cells u5 9)).heap.size=w.heap.size+5:=by simp [B]
 rw [B] at q;generalize f.alloc (.cells u5 9)=g at *;have r:=zbF g h6.1 h6.2.1 oM;have x6:=(cY g).alloc (.cells u6 9);have D:(g.alloc (.cells u6 9)).heap.size=w.heap.size+6:=by simp [C]
 rw [C] at r;generalize g.alloc (.cells u6 9)=h at *;have s:=zbF h h7.1 h7.2.1 oM;have x7:=(cY h).alloc (.cells u7 9);have E:(h.alloc (.cells u7 9)).heap.size=w.heap.size+7:=by simp [D]
 rw [D] at s;generalize h.alloc (.cells u7 9)=i at *;have t:=zbF i h8.1 h8.2.1 oM;have x8:=(cY i).alloc (.cells u8 9);have F:(i.alloc (.cells u8 9)).heap.size=w.heap.size+8:=by simp [E]
 rw [E] at t;generalize i.alloc (.cells u8 9)=j at *;have u:=zbF j h9.1 h9.2.1 oM;have x9:=(cY j).alloc (.cells u9 9);have U:(j.alloc (.cells u9 9)).heap.size=w.heap.size+9:=by simp [F]
 rw [F] at u;generalize j.alloc (.cells u9 9)=G at *;obtain⟨V,U0⟩:∃ x,Hid (G.alloc (.cells #[.slice (some w.heap.size) 3 3,.slice (some ⟨w.heap.size+1,0,none⟩) 3 3,.slice (some ⟨w.heap.size+2,0,none⟩) 3 3,.slice (some ⟨w.heap.size+3,0,none⟩) 3 3,.slice (some ⟨w.heap.size+4,0,none⟩) 3 3,.slice (some ⟨w.heap.size+5,0,none⟩) 3 3,.slice (some ⟨w.heap.size+6,0,none⟩) 3 3,.slice (some ⟨w.heap.size+7,0,none⟩) 3 3,.slice (some ⟨w.heap.size+8,0,none⟩) 3 3] 99)=x):=⟨_,za rfl⟩;have a:=Ext.bl_ U0.out;have m:=(cY G).alloc (.cells #[.slice (some w.heap.size) 3 3,.slice (some ⟨w.heap.size+1,0,none⟩) 3 3,.slice (some ⟨w.heap.size+2,0,none⟩) 3 3,.slice (some ⟨w.heap.size+3,0,none⟩) 3 3,.slice (some ⟨w.heap.size+4,0,none⟩) 3 3,.slice (some ⟨w.heap.size+5,0,none⟩) 3 3,.slice (some ⟨w.heap.size+6,0,none⟩) 3 3,.slice (some ⟨w.heap.size+7,0,none⟩) 3 3,.slice (some ⟨w.heap.size+8,0,none⟩) 3 3] 99);rw [U] at a;rw [U0.out] at *;have S:=m;have R:=x9.trans S;have Q:=x8.trans R;have O:=x7.trans Q;have M:=x6.trans O;have L:=x5.trans M;have J:=x4.trans L;have I:=Z.trans J;have H:=Y.trans I;refine⟨_,rfl,oM,fun k hk=>?_,X.trans H⟩;have l:k=0∨k=1∨k=2∨k=3∨k=4∨k=5∨k=6∨k=7∨k=8:=oM;rcases l with rfl|rfl|rfl|rfl|rfl|rfl|rfl|rfl|rfl
 ·exact⟨_,_,a.cell 0,h1.ak.1,h1.ak.2,zh T H⟩
 ·exact⟨_,_,a.cell 1,h2.ak.1,h2.ak.2,zq (zh n I) oM⟩
 ·exact⟨_,_,a.cell 2,h3.ak.1,h3.ak.2,zq (zh o J) oM⟩
 ·exact⟨_,_,a.cell 3,h4.ak.1,h4.ak.2,zq (zh p L) oM⟩
 ·exact⟨_,_,a.cell 4,h5.ak.1,h5.ak.2,zq (zh q M) oM⟩
 ·exact⟨_,_,a.cell 5,h6.ak.1,h6.ak.2,zq (zh r O) oM⟩
 ·exact⟨_,_,a.cell 6,h7.ak.1,h7.ak.2,zq (zh s Q) oM⟩
 ·exact⟨_,_,a.cell 7,h8.ak.1,h8.ak.2,zq (zh t R) oM⟩
 ·exact⟨_,_,a.cell 8,h9.ak.1,h9.ak.2,zq (zh u S) oM⟩
theorem zkf :Calls Tryz.prog 190 #[] w (RetT3 w):=by
 go_enter Tryz.func190,Tryz.ntmps190
 go_wp2_with fail
 go_ret;exact lit9 w ⟨rfl,rfl,by decide +kernel,by decide +kernel⟩ ⟨rfl,rfl,by decide +kernel,by decide +kernel⟩ ⟨rfl,rfl,by decide +kernel,by decide +kernel⟩ ⟨rfl,rfl,by decide +kernel,by decide +kernel⟩ ⟨rfl,rfl,by decide +kernel,by decide +kernel⟩ ⟨rfl,rfl,by decide +kernel,by decide +kernel⟩ ⟨rfl,rfl,by decide +kernel,by decide +kernel⟩ ⟨rfl,rfl,by decide +kernel,by decide +kernel⟩ ⟨rfl,rfl,by decide +kernel,by decide +kernel⟩
theorem zjM (h:Frm S w w') {p:Addr} (hv:w.cell? p=some v)(hp:¬ S p.block):w'.cell? p=some v:=
 (World.cell?_of_block (w:=w) (h.block _ (World.block_lt_of_cell? w p hv) hp)).trans hv
theorem zca.own {w0:World}    (h:zca w0 W R M L K s A n c t C k c2 p B m d B' m' d'):zca W W R M L K s A n c t C k c2 p B m d B' m' d':={ h with dr:=Dr.refl _ _,hR:=h.rd.lt }
theorem spec_l9Spoil (h:zca w w R M L K s A n c t C k c2 p B m d B' m' d')(hM:M<=600000000)(hL:L<=90000)(hK:K<=60) :
  Calls Tryz.prog 113 #[.pointer (some R),.agg #[s.al,s.st,.slice A n c],.agg #[p.al,.slice B m d,.slice B' m' d'],.agg #[t.al,t.st,.slice C k c2]] w (RetSPT R (M+100) (L+3) (K+39) w):=by
 have bo:=h.hR;have aj:Ext w ((((((w.alloc (.cells #[s.al,s.st,.slice A n c] 38)).alloc (.cells #[p.al,.slice B m d,.slice B' m' d'] 31)).alloc (.cells #[t.al,t.st,.slice C k c2] 38)).alloc (.cells #[(0:Int),(0:Int),()] 38)).alloc (.cells #[(0:Int),(),()] 31)).alloc (.cells #[(0:Int),(0:Int),()] 38)):=((((((cY _).alloc _).alloc _).alloc _).alloc _).alloc _).alloc _;obtain⟨b1,b2,b3⟩:=zL (cY (((w.alloc (.cells #[s.al,s.st,.slice A n c] 38)).alloc (.cells #[p.al,.slice B m d,.slice B' m' d'] 31)).alloc (.cells #[t.al,t.st,.slice C k c2] 38)))
 go_enter Tryz.func113,Tryz.ntmps113
 go_upto_region 1 with fail
 have aw:(((w.alloc (.cells #[s.al,s.st,.slice A n c] 38)).alloc (.cells #[p.al,.slice B m d,.slice B' m' d'] 31)).alloc (.cells #[t.al,t.st,.slice C k c2] 38)).heap.size=w.heap.size+3:=sM;generalize ((w.alloc _).alloc _).alloc _=w0 at *;generalize U0:((w0.alloc _).alloc _).alloc _=w1 at *;obtain⟨U,z1,z2,z3⟩:=Ext.x3_ U0;clear U0;simp only [aw] at z1 z2 z3;have ai:Tri w w1 R M L K (w.heap.size+1+1+1) (w.heap.size+1+1+1+1+1) (w.heap.size+1+1+1+1) w.heap.size (w.heap.size+1+1) (w.heap.size+1) s A n c t C k c2 p B m d B' m' d':=
  ⟨h.ext aj,z1,z3,z2,b1.ext U,b3.ext U,.inr (b2.ext U),oM,za (by unfold Ne6;omega)⟩
 have ax:=aj.size;clear z1 z2 z3 b1 b2 b3 aj U h aw;have av:=za (show w.heap.size+1≠0 by omega);have S:=za (show Ne6 (w.heap.size+1+1+1) (w.heap.size+1+1+1+1+1) (w.heap.size+1+1+1+1) w.heap.size (w.heap.size+1+1) (w.heap.size+1) by unfold Ne6;omega);generalize hZt:w.heap.size+1+1+1+1+1=Zt at *;generalize hZp:w.heap.size+1+1+1+1=l at *;generalize hZs:w.heap.size+1+1+1=o at *;generalize hGt:w.heap.size+1+1=Gt at *;generalize hGp:w.heap.size+1=Gp at *;generalize hGs:w.heap.size=Gs at *;have F:=za (show w.heap.size<=o∧w.heap.size<=Zt∧w.heap.size<=l by omega);clear hZt hZp hZs hGt hGp hGs ax;go_wp2_with fail
 refine (zA ai.at_.rd oM).mono ?_;rintro e w2 ⟨y,rfl,-,-,f,g⟩;have a:=ai.drawn g f;clear ai f g;go_upto_block 0 with fail
 go_cut [] (fun wx=>∃ (s:Sys) (A:Option Addr) (n c:Nat) (t:Sys) (C:Option Addr) (k c2:Nat) (p:Aut) (B:Option Addr) (m d:Nat) (B':Option Addr) (m' d':Nat),Tri w wx R (M+100) (L+3) (K+39) (o) (Zt) (l) Gs (Gt) (Gp) s A n c t C k c2 p B m d B' m' d')
 case first =>
  have Q:y=0∨y=1∨y=2∨3<=y:=oM;rcases Q with hy|hy|hy|hy
  ·subst hy;have az:True:=trivial;have Y:=a.bs.cell;go_wp2_with fail
   refine (zcl (L:=L) a.at_.rd oM a.at_.is a.at_.ns.1.1 oM).mono ?_;rintro e v1 ⟨s1,A1,n1,d1,rfl,af,ab,x,D⟩;have i:=a.drawn D x;clear Y;go_wp2_with fail
   refine (zcl (L:=L+1) i.at_.rd oM af ab.1 oM).mono ?_;rintro e v2 ⟨s2,A2,n2,d2,rfl,ag,ad,f,g⟩;have j:=i.drawn g f;go_wp2_with fail
   refine (zcl (L:=L+2) j.at_.rd oM ag ad.1 oM).mono ?_;rintro e v3 ⟨s3,A3,n3,d3,rfl,ah,ae,G,E⟩;have b:=(j.drawn E G).more (N:=M+100) (J:=L+3) (H:=K+39) oM oM oM;have Y:=b.bs.cell;have fG:=b.bs.frozen;have z:=b.setS ah ae;go_wp2_with fail
   go_meet;exact⟨_,_,_,_,_,_,_,_,_,_,_,_,_,_,_,z⟩
  ·subst hy;have az:True:=trivial;have u:=av.out;have Y:=(a.az u).cell;go_wp2_with fail
   refine (zcm a.at_.rd oM a.at_.ip a.at_.bd.out oM).mono ?_;rintro e v1 ⟨b1,A1,n1,d1,B1,m1,e1,rfl,aK,aH,x,D⟩;have i:=a.drawn D x;have bp:=a.at_.rd.lt;have bq:=i.at_.rd.lt;clear Y;go_wp2_with fail
   refine (zcm x oM (aK.less oM) aH.out oM).mono ?_;rintro e v2 ⟨b2,A2,n2,d2,B2,m2,e2,rfl,aL,aI,f,g⟩;have j:=i.drawn g f;have br:=j.at_.rd.lt;go_wp2_with fail
   refine (zcm f oM (aL.less oM) aI.out oM).mono ?_;rintro e v3 ⟨b3,A3,n3,d3,B3,m3,e3,rfl,aN,aJ,G,E⟩;have b:=(j.drawn E G).more (N:=M+100) (J:=L+3) (H:=K+39) oM oM oM;have Y:=(b.az u).cell;have fG:=(b.az u).frozen;have z:=b.setP u (aN.less oM) (BdL.more aJ.out oM);go_wp2_with fail
   go_meet;exact⟨_,_,_,_,_,_,_,_,_,_,_,_,_,_,_,z⟩
  ·subst hy;have az:True:=trivial;have Y:=a.bt.cell;go_wp2_with fail
   refine (zcl (L:=L) a.at_.rd oM a.at_.it a.at_.ns.2.1 oM).mono ?_;rintro e v1 ⟨s1,A1,n1,d1,rfl,af,ab,x,D⟩;have i:=a.drawn D x;clear Y;go_wp2_with fail
   refine (zcl (L:=L+1) i.at_.rd oM af ab.1 oM).mono ?_;rintro e v2 ⟨s2,A2,n2,d2,rfl,ag,ad,f,g⟩;have j:=i.drawn g f;go_wp2_with fail
   refine (zcl (L:=L+2) j.at_.rd oM ag ad.1 oM).mono ?_;rintro e v3 ⟨s3,A3,n3,d3,rfl,ah,ae,G,E⟩;have b:=(j.drawn E G).more (N:=M+100) (J:=L+3) (H:=K+39) oM oM oM;have Y:=b.bt.cell;have fG:=b.bt.frozen;have z:=b.setT ah ae;go_wp2_with fail
   go_meet;exact⟨_,_,_,_,_,_,_,_,_,_,_,_,_,_,_,z⟩
  ·have h0:((y:Int)==0)=false:=by simp;omega
   have h1:((y:Int)==1)=false:=by simp;omega
   have h2:((y:Int)==2)=false:=by simp;omega
   go_wp2_with fail
   go_meet;exact⟨_,_,_,_,_,_,_,_,_,_,_,_,_,_,_,a.more oM oM oM⟩
 case rest =>
  clear a;obtain⟨s,A,n,c,t,C,k,c2,p,B,m,d,B',m',d',ht⟩:=hcut;have u:=av.out;obtain⟨O,aO⟩:∃ O,O=wc:=⟨_,rfl⟩;subst aO;have cS:∀ W,Frm (fun k=>k=o∨k=l) O W->∀ q,W.cell? ⟨Gs,q,none⟩=#[Value.int .i64 s.al,.int .i64 s.st,.slice A n c][q]?:=fun W hW=>(ht.bs.frm hW (by have:=S.out;unfold Ne6 at this;omega)).cell;have cT:∀ W,Frm (fun k=>k=o∨k=l) O W->∀ q,W.cell? ⟨Gt,q,none⟩=#[Value.int .i64 t.al,.int .i64 t.st,.slice C k c2][q]?:=fun W hW=>(ht.bt.frm hW (by have:=S.out;unfold Ne6 at this;omega)).cell;have cP:∀ W,Frm (fun k=>k=o∨k=l) O W->∀ q,W.cell? ⟨Gp,q,none⟩=#[Value.int .i64 p.al,.slice B m d,.slice B' m' d'][q]?:=fun W hW=>((ht.az u).frm hW (by have:=S.out;unfold Ne6 at this;omega)).cell;have ar:Frm (fun k=>k=o∨k=l) O O.drew:=(cY O).drew.aj;have I:=ht.ext (cY O).drew;go_wp2_with fail
  refine tR (fun X=>Frm (fun k=>k=o∨k=l) O X) [5] (Ord.of [0,1,2,3,4,5]) ?_;refine tQ ?_;generalize hwD:O.drew=wD at *;clear hwD;have Z:=I.at_;have zs:=I.zs;have V:=I.zt;have zp:=I.zp;have cs:=zs.cell;have fs:=zs.frozen;have r:=za S.out;clear I ht;refine zC fun K hK=>?_;go_simp;have q1:=zaH zs rfl (.int .i64 s.al) (.int .i64 s.st) (.slice A n c);have e1:=zam wD o (.int .i64 s.al) (.int .i64 s.st) (.slice A n c);replace Z:=Z.far zs e1 F.out.1 dM dM;replace V:=V.frm e1 (by have:=r.out;unfold Ne6 at this;omega);replace zp:=zp.frm e1 (by have:=r.out;unfold Ne6 at this;omega);have aa:=ar.trans (e1.mono (T:=fun k=>k=o∨k=l) (fun k _ hk=>.inl hk));refine hK.out _ _ aa ?_;refine pT ?_;clear cs fs zs e1;generalize ((wD.setCell o s.al).setCell ⟨o,1,none⟩ s.st).setCell ⟨o,2,none⟩ (.slice A n c)=wA at *;have cp:=zp.cell;have fp:=zp.frozen;refine zC fun K hK=>?_;go_simp;have q2:=zaH zp rfl (.int .i64 p.al) (.slice B m d) (.slice B' m' d');have e2:=zam wA l (.int .i64 p.al) (.slice B m d) (.slice B' m' d');replace Z:=Z.far zp e2 F.out.2.2 dM dM;replace V:=V.frm e2 (by have:=r.out;unfold Ne6 at this;omega);replace q1:=q1.frm e2 (by have:=r.out;unfold Ne6 at this;omega);have au:=aa.trans (e2.mono (T:=fun k=>k=o∨k=l) (fun k _ hk=>.inr hk));refine hK.out _ _ au ?_;refine pT ?_;clear cp fp zp e2 aa;generalize ((wA.setCell l p.al).setCell ⟨l,1,none⟩ (.slice B m d)).setCell ⟨l,2,none⟩ (.slice B' m' d')=wB at *;have ct:=V.cell;have ft:=V.frozen;refine zT fun K hK=>?_;go_simp;have q3:=zaH V rfl (.int .i64 t.al) (.int .i64 t.st) (.slice C k c2);have e3:=zam wB Zt (.int .i64 t.al) (.int .i64 t.st) (.slice C k c2);replace Z:=Z.far V e3 F.out.2.1 dM dM;replace q1:=q1.frm e3 (by have:=r.out;unfold Ne6 at this;omega);replace q2:=q2.frm e3 (by have:=r.out;unfold Ne6 at this;omega);refine hK.out _ _ ?_;refine zao ?_;clear ct ft V e3 au ar cS cT cP;generalize ((wB.setCell Zt t.al).setCell ⟨Zt,1,none⟩ t.st).setCell ⟨Zt,2,none⟩ (.slice C k c2)=wC at *;have aG:=za Z;clear Z;go_wp2_with fail
  have c1:=q1.cell;have aF:=q2.cell;have c3:=q3.cell;exact bodyPost_ret (v:=.tuple #[.agg #[s.al,s.st,.slice A n c],.agg #[p.al,.slice B m d,.slice B' m' d'],.agg #[t.al,t.st,.slice C k c2]]) (by simp [results,Tryz.results113,go_sem,c1,aF,c3]) rfl ⟨s,A,n,c,t,C,k,c2,p,B,m,d,B',m',d',rfl,aG.out⟩
theorem spec_l12Draw (h:Rd w R M)(hM:M<=500000000) :
  Calls Tryz.prog 110 #[.pointer (some R)] w (RetSTP R (M+200000) 30000 50 w):=by
 have aQ:=h.lt
 go_enter Tryz.func110,Tryz.ntmps110
 go_upto_region 1 with fail
 generalize U0:((w.alloc _).alloc _).alloc _=w0 at *;obtain⟨a0,z1,z2,z3⟩:=Ext.x3_ U0;have cv:w0.heap.size=w.heap.size+3:=by rw [← U0];simp
 clear U0;go_upto_region 2 with (first
  |(go_at_call 189;refine (spec_l9Three (h.ext a0) oM).mono ?_;rintro e U ⟨s,A,n,c,t,C,k,E,p,B,m,d,D,Q,I,rfl,S⟩))
 have ad:Ext U (((U.alloc (.cells #[s.al,s.st,.slice A n c] 38)).alloc (.cells #[p.al,.slice B m d,.slice D Q I] 31)).alloc (.cells #[t.al,t.st,.slice C k E] 38)):=(((cY _).alloc _).alloc _).alloc _;obtain⟨b1,b2,b3⟩:=zL (cY (((U.alloc (.cells #[s.al,s.st,.slice A n c] 38)).alloc (.cells #[p.al,.slice B m d,.slice D Q I] 31)).alloc (.cells #[t.al,t.st,.slice C k E] 38)));have bu:=S.dr.size;have aH:Tri w (((U.alloc (.cells #[s.al,s.st,.slice A n c] 38)).alloc (.cells #[p.al,.slice B m d,.slice D Q I] 31)).alloc (.cells #[t.al,t.st,.slice C k E] 38)) R (M+150000) 30000 50 w.heap.size (w.heap.size+1) (w.heap.size+1+1) U.heap.size (U.heap.size+1+1) (U.heap.size+1) s A n c t C k E p B m d D Q I:=
  ⟨((S.less a0.dr aQ).ext ad).more oM oM oM,(z1.dr S.dr oM).ext ad,(z2.dr S.dr oM).ext ad,(z3.dr S.dr oM).ext ad,b1,b3,.inr b2,oM,za (by unfold Ne6;omega)⟩
 clear S b1 b2 b3 z1 z2 z3 ad;have Z:=za (show w.heap.size+3<=U.heap.size by omega);have bg:(((U.alloc (.cells #[s.al,s.st,.slice A n c] 38)).alloc (.cells #[p.al,.slice B m d,.slice D Q I] 31)).alloc (.cells #[t.al,t.st,.slice C k E] 38)).heap.size=U.heap.size+3:=sM;clear bu;generalize hG:U.heap.size=G at *;generalize ((U.alloc _).alloc _).alloc _=w2 at *;clear hG U;go_wp2_with fail
 refine (zA aH.at_.rd oM).mono ?_;rintro e w3 ⟨y,rfl,-,-,aX,aD⟩;have ab:=aH.drawn aD aX;have f:=za (show G+3<=w3.heap.size by have:=aD.size;omega);clear aH aX aD bg;go_upto_if 18 with fail
 go_cut [] (fun wx=>∃ (s:Sys) (A:Option Addr) (n c:Nat) (t:Sys) (C:Option Addr) (k E:Nat) (p:Aut) (B:Option Addr) (m d:Nat) (D:Option Addr) (Q I:Nat),Tri w wx R (M+200000) 30000 50 w.heap.size (w.heap.size+1) (w.heap.size+1+1) G (G+1+1) (G+1) s A n c t C k E p B m d D Q I)
 case first =>
  by_cases hy:y=0
  ·subst hy;have cx:True:=trivial;have r:G+1≠0:=oM;go_wp2_with fail
   refine (zkf).mono ?_;rintro e w4 ⟨g,rfl,hg,hT,a1⟩;have aI:=ab.ext a1;have hq:=ab.at_.rd.lt;clear ab;have bM:=a1.size;go_wp2_with fail
   refine (zA aI.at_.rd oM).mono ?_;rintro e w5 ⟨j,rfl,hj,-,bp,aE⟩;have bl:j<9:=by have:=hj oM;omega
   have aJ:=aI.drawn aE bp;obtain⟨bt,lt,aU,bm,ah,aW⟩:=hT j bl;have aO:=aE.aa aU (by dsimp only;omega);have x:=zbN aW aE (fun b h1 e=>oM);have bL:(j:Int)<9:=oM;clear hj hT aU aW aI;have cn:w3.heap.size<=bt:=(x.lt bt rfl).1;obtain⟨b6,x0,e0,_,_,aw,aP⟩:=(eA x).str (show 0<3 by omega);obtain⟨b7,x1,e1,_,_,ax,aA⟩:=(eA x).str (show 1<3 by omega);obtain⟨b8,x2,e2,_,_,ay,aB⟩:=(eA x).str (show 2<3 by omega);obtain rfl:=Option.some.inj e0;obtain rfl:=Option.some.inj e1;obtain rfl:=Option.some.inj e2;have bN:=ah.1 x0 (dB aw.out);have bO:=ah.1 x1 (dB ax.out);have bP:=ah.2 x2 ay.out;rw [zY,dT] at aP aA aB;clear e0 e1 e2 aw ax ay ah bm x;go_wp2_with fail
   refine (zdb aJ.at_.rd oM).mono ?_;rintro e w6 ⟨s1,A1,n1,c1,ok,rfl,bq,⟨-,bj⟩,co,aY,Y⟩;have cm:=za (show R<w.heap.size from aQ);have l:=aJ.drawn Y aY;have F:=l.bs.cell;have fG:=l.bs.frozen;have o:=l.setS bq (by omega:n1<=30000∧n1<=c1);have f1:=zam w6 G (.int .i64 s1.al) (.int .i64 s1.st) (.slice A1 n1 c1);have a2:=(Y.aa aA (by have:=f.out;have:=Z.out;dsimp only;omega));have ae:=(Y.aa aB (by have:=f.out;have:=Z.out;dsimp only;omega));have kt:=(Y.aa aO (by have:=f.out;have:=Z.out;dsimp only;omega));have bx:=zjM f1 a2 (by have:=f.out;dsimp only;omega);have a3:=zjM f1 ae (by have:=f.out;dsimp only;omega);clear aP aA aB aO a2 ae kt aJ l f1 Y aY;go_upto_region 6 with fail
   clear F fG;generalize ((w6.setCell G s1.al).setCell ⟨G,1,none⟩ s1.st).setCell ⟨G,2,none⟩ (.slice A1 n1 c1)=w7 at *;go_wp2_with fail
   refine (zdb o.at_.rd oM).mono ?_;rintro e w8 ⟨s2,A2,n2,d2,cB,rfl,br,⟨-,bk⟩,cq,aZ,aF⟩;have ai:=o.drawn aF aZ;have F:=ai.bt.cell;have fG:=ai.bt.frozen;have O:=ai.setT br (by omega:n2<=30000∧n2<=d2);have f2:=zam w8 (G+1+1) (.int .i64 s2.al) (.int .i64 s2.st) (.slice A2 n2 d2);have ae:=(aF.aa a3 (by have:=f.out;have:=Z.out;dsimp only;omega));have bz:=zjM f2 ae (by have:=f.out;dsimp only;omega);clear bx a3 ae o ai f2 aF aZ;go_upto_region 7 with fail
   clear F fG;generalize ((w8.setCell ⟨G+1+1,0,none⟩ s2.al).setCell ⟨G+1+1,1,none⟩ s2.st).setCell ⟨G+1+1,2,none⟩ (.slice A2 n2 d2)=w9 at *;go_wp2_with fail
   refine (zfV O.at_.rd oM).mono ?_;rintro e bB ⟨b1,A3,n3,d3,A4,n4,d4,cC,rfl,aV,aT,au,aq⟩;have cu:=O.at_.rd.lt;have aj:=O.drawn aq au;have F:=(aj.az r).cell;have fG:=(aj.az r).frozen;have V:=aj.setP r (aV.less oM) (BdL.more aT.out oM);clear bz O aj aq au aV;go_upto_region 8 with fail
   clear F fG;generalize ((bB.setCell ⟨G+1,0,none⟩ b1.al).setCell ⟨G+1,1,none⟩ (.slice A3 n3 d3)).setCell ⟨G+1,2,none⟩ (.slice A4 n4 d4)=cH at *;go_wp2_with fail
   refine (zA V.at_.rd oM).mono ?_;rintro e cI ⟨y,rfl,-,-,av,ar⟩;have a:=V.drawn ar av;clear V av ar;have ag:y=0∨y=1∨y=2∨3<=y:=oM;rcases ag with hy|hy|hy|hy
   ·subst hy;have F:=a.bs.cell;go_wp2_with fail
    refine (zfD (L:=1001) a.at_.rd oM a.at_.is bj oM oM).mono ?_;rintro e a5 ⟨s5,A5,n5,d5,rfl,aG,bn,z,u⟩;have i:=(a.drawn u z).more (N:=M+200000) (J:=30000) (H:=50) oM oM oM;clear F;have F:=i.bs.cell;have fG:=i.bs.frozen;have o:=i.setS aG (by omega:n5<=30000∧n5<=d5);go_wp2_with fail
    go_meet;exact⟨_,_,_,_,_,_,_,_,_,_,_,_,_,_,_,o⟩
   ·subst hy;have F:=a.bt.cell;go_wp2_with fail
    refine (zfD (L:=1001) a.at_.rd oM a.at_.it bk oM oM).mono ?_;rintro e a5 ⟨s5,A5,n5,d5,rfl,aG,bn,z,u⟩;have i:=(a.drawn u z).more (N:=M+200000) (J:=30000) (H:=50) oM oM oM;clear F;have F:=i.bt.cell;have fG:=i.bt.frozen;have o:=i.setT aG (by omega:n5<=30000∧n5<=d5);go_wp2_with fail
    go_meet;exact⟨_,_,_,_,_,_,_,_,_,_,_,_,_,_,_,o⟩
   ·subst hy;have F:=(a.az r).cell;go_wp2_with fail
    refine (zgE (L:=x2.size+1) a.at_.rd oM a.at_.ip aT.out oM).mono ?_;rintro e a5 ⟨b5,A5,n5,d5,A6,n6,d6,rfl,bo,bi,z,u⟩;have hq:=a.at_.rd.lt;have i:=(a.drawn u z).more (N:=M+200000) (J:=30000) (H:=50) oM oM oM;clear F;have F:=(i.az r).cell;have fG:=(i.az r).frozen;have o:=i.setP r (bo.less oM) (BdL.more bi.out oM);go_wp2_with fail
    go_meet;exact⟨_,_,_,_,_,_,_,_,_,_,_,_,_,_,_,o⟩
   ·have h0:((y:Int)==0)=false:=by simp;omega
    have h1:((y:Int)==1)=false:=by simp;omega
    have h2:((y:Int)==2)=false:=by simp;omega
    go_wp2_with fail
    go_meet;exact⟨_,_,_,_,_,_,_,_,_,_,_,_,_,_,_,a.more oM oM oM⟩
  ·have cw:((y:Int)==0)=false:=by simp;omega
   go_wp2_with fail
   go_meet;exact⟨_,_,_,_,_,_,_,_,_,_,_,_,_,_,_,ab.more oM oM oM⟩
 case rest =>
  clear ab;obtain⟨s,A,n,c,t,C,k,E,p,B,m,d,D,Q,I,S⟩:=hcut;have r:G+1≠0:=oM;have aa:Hid (G+3<=wc.heap.size∧w.heap.size+3<=G):=za ⟨by have:=(S.bt).lt;omega,Z.out⟩;obtain⟨wE,bw⟩:∃ wE,wE=wc:=⟨_,rfl⟩;subst bw;have cS:∀ W,Frm (fun k=>k=w.heap.size∨k=w.heap.size+1) wE W->∀ q,W.cell? ⟨G,q,none⟩=#[Value.int .i64 s.al,.int .i64 s.st,.slice A n c][q]?:=fun W hW=>(S.bs.frm hW (oH aa.out)).cell;have cT:∀ W,Frm (fun k=>k=w.heap.size∨k=w.heap.size+1) wE W->∀ q,W.cell? ⟨G+1+1,q,none⟩=#[Value.int .i64 t.al,.int .i64 t.st,.slice C k E][q]?:=fun W hW=>(S.bt.frm hW (oH aa.out)).cell;have cP:∀ W,Frm (fun k=>k=w.heap.size∨k=w.heap.size+1) wE W->∀ q,W.cell? ⟨G+1,q,none⟩=#[Value.int .i64 p.al,.slice B m d,.slice D Q I][q]?:=fun W hW=>((S.az r).frm hW (oH aa.out)).cell;have aR:Frm (fun k=>k=w.heap.size∨k=w.heap.size+1) wE wE.drew:=(cY wE).drew.aj;have l:=S.ext (cY wE).drew;go_wp2_with fail
  refine tR (fun X=>Frm (fun k=>k=w.heap.size∨k=w.heap.size+1) wE X) [5] (Ord.of [0,1,2,3,4,5]) ?_;refine tQ ?_;generalize hwD:wE.drew=wD at *;clear hwD;have ha:=l.at_;have zs:=l.zs;have zt:=l.zt;have zp:=l.zp;have cs:=zs.cell;have fs:=zs.frozen;clear l S;refine zC fun K hK=>?_;go_simp;have q1:=zaH zs rfl (.int .i64 s.al) (.int .i64 s.st) (.slice A n c);have e1:=zam wD w.heap.size (.int .i64 s.al) (.int .i64 s.st) (.slice A n c);replace ha:=ha.far zs e1 oM dM dM;replace zt:=zt.frm e1 oM;replace zp:=zp.frm e1 oM;have aC:=aR.trans (e1.mono (T:=fun k=>k=w.heap.size∨k=w.heap.size+1) (fun k _ hk=>.inl hk));refine hK.out _ _ aC ?_;refine pT ?_;clear cs fs zs e1;generalize ((wD.setCell w.heap.size s.al).setCell ⟨w.heap.size,1,none⟩ s.st).setCell ⟨w.heap.size,2,none⟩ (.slice A n c)=wA at *;have ct:=zt.cell;have ft:=zt.frozen;refine zC fun K hK=>?_;go_simp;have q2:=zaH zt rfl (.int .i64 t.al) (.int .i64 t.st) (.slice C k E);have e2:=zam wA (w.heap.size+1) (.int .i64 t.al) (.int .i64 t.st) (.slice C k E);replace ha:=ha.far zt e2 oM dM dM;replace zp:=zp.frm e2 oM;replace q1:=q1.frm e2 oM;have aS:=aC.trans (e2.mono (T:=fun k=>k=w.heap.size∨k=w.heap.size+1) (fun k _ hk=>.inr hk));refine hK.out _ _ aS ?_;refine pT ?_;clear ct ft zt e2 aC;generalize ((wA.setCell ⟨w.heap.size+1,0,none⟩ t.al).setCell ⟨w.heap.size+1,1,none⟩ t.st).setCell ⟨w.heap.size+1,2,none⟩ (.slice C k E)=wB at *;have cp:=zp.cell;have fp:=zp.frozen;refine zT fun K hK=>?_;go_simp;have q3:=zaH zp rfl (.int .i64 p.al) (.slice B m d) (.slice D Q I);have e3:=zam wB (w.heap.size+1+1) (.int .i64 p.al) (.slice B m d) (.slice D Q I);replace ha:=ha.far zp e3 oM dM dM;replace q1:=q1.frm e3 oM;replace q2:=q2.frm e3 oM;refine hK.out _ _ ?_;refine zao ?_;clear cp fp zp e3 aS aR cS cT cP;generalize ((wB.setCell ⟨w.heap.size+1+1,0,none⟩ p.al).setCell ⟨w.heap.size+1+1,1,none⟩ (.slice B m d)).setCell ⟨w.heap.size+1+1,2,none⟩ (.slice D Q I)=wC at *;have bh:=za ha;clear ha;go_wp2_with fail
  have c1:=q1.cell;have be:=q2.cell;have c3:=q3.cell;exact bodyPost_ret (v:=.tuple #[.agg #[s.al,s.st,.slice A n c],.agg #[t.al,t.st,.slice C k E],.agg #[p.al,.slice B m d,.slice D Q I]]) (by simp [results,Tryz.results110,go_sem,c1,be,c3]) rfl ⟨s,A,n,c,t,C,k,E,p,B,m,d,D,Q,I,rfl,bh.out⟩
theorem union_le14 (h:zB ss=true):zG ss<=63:=by
 have c:∀ s∈ss,zl s=true:=by
  unfold zB at h;simp only [dG,List.all_eq_true] at h;exact h.2.2
 have:∀ n,zG (ss.take n)<=63:=by
  intro n
  induction n with
  |zero=>simp [zG]
  |succ n ih =>
   rcases Nat.lt_or_ge n ss.length with a|a
   ·rw [zcM (List.getElem?_eq_getElem a)];have:=zQ (c _ (List.getElem_mem a));have:=Nat.or_lt_two_pow (n:=6) (x:=zG (ss.take n)) (y:=ss[n].al.toNat) oM oM;omega
   ·rw [dI oM];rw [dI a] at ih;exact ih
 have b:=this ss.length;rwa [List.take_length] at b
theorem partsA_cases (ss:List Sys):(∃ a:Nat,zaX ss=(a:Int)∧a<64)∨zaX ss = -1:=by
 unfold zaX;cases h:zB ss
 ·exact .inr rfl
 ·exact .inl ⟨zG ss,rfl,by have:=union_le14 h;omega⟩
def RetSd (R M L:Nat) (w:World) (e:Ending) (w':World):Prop:=∃ x:ByteArray,e=.returned (.string x)∧x.size<=L∧Rd w' R M∧Dr R w w'
theorem zfF.dr (h:zfF w lo hi A n ss)(hd:Dr R w w')(hl:R<lo):zfF w' lo hi A n ss:=by
 obtain⟨e,a,i,j⟩:=h;refine⟨e,a,i.dr hd hl,fun k s hs=>?_⟩;obtain⟨B,m,c,d,f,g,b⟩:=j k s hs;exact⟨B,m,c,d,f,g,b.1,b.2.dr hd hl⟩
theorem spec_l1Word {a:Nat} (h:Rd w R M)(hM:M<=900000000)(ha:a<64)(hq:q<=1000) :
  Calls Tryz.prog 198 #[.pointer (some R),a,q] w (RetSd R (M+q+2) q w):=by
 have c:=h.lt
 go_enter Tryz.func198,Tryz.ntmps198
 go_wp2_with fail
 refine (zZ a tM _).mono ?_;rintro e w1 ⟨B,d,rfl,F,m⟩;have ae:=zD a 6;have I:=za (fun k (hk:k∈letters a 6)=>(zcI.1 hk).1);have z:=(eA F);have u:=h.ext m;clear F h;generalize letters a 6=p at *;go_wp2_with fail
 refine (zA u oM).mono ?_;rintro e X ⟨o,rfl,s,-,L,f⟩;have T:o<=q:=by have:=s oM;omega
 have C:=z.dr f c;have D:Dr R w X:=m.dr.trans f;have g:Hid ((⟨#[]⟩:ByteArray).size+o<=q):=za (by show 0+o<=q;omega);clear s z u f m;go_wp2_with fail
 go_loopw [8,9] (fun v i wr=>∃ (x:ByteArray) (j:Nat),v=.string x∧i=.int .i64 j∧j<=o∧Hid (x.size+j<=q)∧Rd wr R (M+1+(o - j))∧Dr R X wr) (fun _ i _=>(intOf i).toNat)
 case atStart=>exact⟨_,o,rfl,rfl,dD _,g,L.more oM,Dr.refl _ _⟩
 case round =>
  clear g;obtain⟨x,j,rfl,rfl,hj,b,J,G⟩:=hrel
  by_cases S:0<j∧0<p.length
  ·obtain⟨S,Y⟩:=S;have H:(j:Int)>0:=oM;have Z:(p.length:Int)>0:=oM;go_wp2_with fail
   refine (zA (n:=p.length) J oM).mono ?_;rintro e w3 ⟨y,rfl,V,-,O,r⟩;have Q:y<p.length:=by have:=V oM;omega
   obtain⟨ad,l,rfl,_,_,hl,af⟩:=((C.dr G c).dr r c).nat Q;have U:=I.out l (dB hl.out);clear V;go_wp2_with fail
   refine (zeA (l:=(l:Int)) oM oM).mono ?_;rintro e w4 ⟨t,rfl,ht,E⟩;have g:x.size+t.size<=5000:=oH b.out;go_wp2_with fail
   go_roundw
   case rel=>exact⟨_,j - 1,rfl,gM,oM,za (by rw [ByteArray.size_append];have:=b.out;omega),(O.ext E).more oM,(G.trans r).ext E⟩
   case measure=>simp [intOf];omega
  ·by_cases Y:0<j
   ·have H:(j:Int)>0:=oM;have h2:p.length=0:=oM;have aa:¬ ((p.length:Int)>0):=oM;go_wp2_with fail
    go_ret;exact⟨x,rfl,oH b.out,J.more oM,D.trans G⟩
   ·obtain rfl:j=0:=oM;go_wp2_with fail
    go_ret;exact⟨x,rfl,oH b.out,J.more oM,D.trans G⟩
theorem spec_l7Trace (h:Rd w R M)(hM:M<=900000000)(hs:zfF w lo hi A n ss)(hlo:R<lo)(hq:q<=1000) :
  Calls Tryz.prog 197 #[.pointer (some R),.slice A n c,q] w (RetSd R (M+2*q+2) q w):=by
 have ar:=h.lt;have HS:=za (fun W (hW:Dr R w W)=>hs.dr hW hlo);have HP:=za (zah (c:=c) hs);have ab:=za (partsA_cases ss);clear hs
 go_enter Tryz.func197,Tryz.ntmps197
 go_wp2_with fail
 refine HP.out.mono ?_;generalize zaX ss=pa at *;rintro e w1 ⟨rfl,u⟩;have I:=h.ext u;clear h HP;go_wp2_with fail
 refine (zA I oM).mono ?_;rintro e w2 ⟨D,rfl,G,-,ae,E⟩;have al:D<=q:=by have:=G oM;omega
 have s:Dr R w w2:=u.dr.trans E;have r:Hid ((⟨#[]⟩:ByteArray).size+D<=q):=za (by show 0+D<=q;omega);clear G I E u;go_wp2_with fail
 go_loopw [8,9,10,11,12,13] (fun v i _ _ _ _ wr=>∃ (x:ByteArray) (j:Nat),v=.string x∧i=.int .i64 j∧j<=D∧Hid (x.size+j<=q)∧Rd wr R (M+1+(D - j))∧Dr R w2 wr) (fun _ i _ _ _ _ _=>(intOf i).toNat)
 case atStart=>exact⟨_,D,rfl,rfl,dD _,r,ae.more oM,Dr.refl _ _⟩
 case round =>
  clear r;obtain⟨x,j,rfl,rfl,hj,m,H,X⟩:=hrel
  by_cases h0:0<j∧pa>0
  ·obtain⟨h0,h1⟩:=h0;have U:(j:Int)>0:=oM;obtain⟨a,aa,ha⟩:∃ a:Nat,pa=(a:Int)∧a<64:=by
    rcases ab.out with h|h
    ·exact h
    ·omega
   have aq:(a:Int)>0:=oM;subst aa;go_wp2_with fail
   refine (zZ a tM _).mono ?_;rintro e w3 ⟨B,d,rfl,T,C⟩;have av:=zD a 6;have Y:=za (fun k (hk:k∈letters a 6)=>(zcI.1 hk).1);have L:=(eA T);have V:=H.lt;clear T;generalize letters a 6=p at *;go_wp2_with fail
   refine (zA (n:=p.length) (H.ext C) oM).mono ?_;rintro e w4 ⟨y,rfl,hy,S,J,F⟩;have O:=L.dr F V;have f:Dr R w2 w4:=(X.ext C).trans F;have ay:y<=6:=by
    rcases gK p.length with h|h
    ·have:=S oM;omega
    ·have:=hy oM;omega
   clear hy S L H C;go_wp2_with fail
   go_loopw [8,12,13] (fun v iv _ wr=>∃ (i:Nat),v=.string x∧iv=.int .i64 i∧i<=p.length∧Ext w4 wr) (fun _ iv _ _=>p.length - (intOf iv).toNat)
   case atStart=>exact⟨0,rfl,rfl,dF _,cY _⟩
   case round =>
    obtain⟨i,rfl,rfl,hi,o⟩:=hrel
    by_cases hlt:i<p.length
    ·have tm:((y:Int)+(i:Int)).tmod (p.length:Int)=(((y+i) % p.length:Nat):Int):=by rw [← Int.natCast_add];rfl
     have Z:(y+i) % p.length<p.length:=Nat.mod_lt _ oM;generalize (y+i) % p.length=z at *;obtain⟨ad,l,rfl,_,_,hl,aw⟩:=(O.ext o).nat Z;have am:=Y.out l (dB hl.out);go_wp2_with fail
     refine (zeA (l:=(l:Int)) oM oM).mono ?_;rintro e w5 ⟨t,rfl,ht,Q⟩;have r:x.size+t.size<=5000:=oH m.out;have ax:(x++t).size<=x.size+1:=by rw [ByteArray.size_append];omega
     go_wp2_with fail
     refine (zeh (t:=x++t) (HS.out _ (((s.trans f).ext o).ext Q)) (by rw [ByteArray.size_append];omega)).mono ?_;generalize zhQ ss (x++t)=b at *;rintro e w6 ⟨rfl,af⟩;have g:Ext w4 w6:=(o.trans Q).trans af;cases b
     ·go_wp2_with fail
      go_roundw
      case rel=>exact⟨i+1,rfl,gM,oM,g⟩
      case measure=>simp [intOf];omega
     ·go_wp2_with fail
      go_roundw
      case rel=>exact⟨x++t,j - 1,rfl,gM,oM,za (oH m.out),(J.ext g).more oM,f.ext g⟩
      case measure=>simp [intOf];omega
    ·obtain rfl:i=p.length:=oM;go_wp2_with fail
     go_roundw
     case rel=>exact⟨x,j - 1,rfl,gM,oM,za (oH m.out),(J.ext o).more oM,f.ext o⟩
     case measure=>simp [intOf];omega
  ·by_cases h1:0<j
   ·have U:(j:Int)>0:=oM;have h2:¬ (pa>0):=oM;go_wp2_with fail
    go_ret;exact⟨x,rfl,oH m.out,H.more oM,s.trans X⟩
   ·obtain rfl:j=0:=oM;go_wp2_with fail
    go_ret;exact⟨x,rfl,oH m.out,H.more oM,s.trans X⟩
structure zfE (w0 W:World) (R M K J:Nat) (a:Aut) (B:Option Addr) (m d:Nat) (B':Option Addr) (m' d':Nat) (x:ByteArray):Prop where
 own:zac W (R+1) B m d B' m' d' a
 bd:Hid (BdA K a∧x.size<=J)
 rd:Rd W R M
 dr:Dr R w0 W
 hR:R<w0.heap.size
def RetCe (R M K J:Nat) (w:World) (e:Ending) (w':World):Prop:=
 ∃ (hd:Bool) (a:Aut) (B:Option Addr) (m d:Nat) (B':Option Addr) (m' d':Nat) (x:ByteArray),e=.returned (.agg #[.bool hd,a.al,.slice B m d,.slice B' m' d',x])∧zfE w w' R M K J a B m d B' m' d' x
section
variable {w0 W W':World} {R M K J N H I Z m d m' d':Nat} {a:Aut} {B B':Option Addr} {x:ByteArray} {hd:Bool}
theorem zfE.drawn (h:zfE w0 W R M K J a B m d B' m' d' x)(hd:Dr R W W')(hr:Rd W' R N):zfE w0 W' R N K J a B m d B' m' d' x:=
 ⟨h.own.keep hd (fun b h1 e=>oM),h.bd,hr,h.dr.trans hd,h.hR⟩
theorem zfE.ext (h:zfE w0 W R M K J a B m d B' m' d' x)(hx:Ext W W'):zfE w0 W' R M K J a B m d B' m' d' x:=h.drawn hx.dr (h.rd.ext hx)
theorem zfE.more (h:zfE w0 W R M K J a B m d B' m' d' x)(hM:M<=N)(hK:K<=H)(hJ:J<=I):zfE w0 W R N H I a B m d B' m' d' x:=
 ⟨h.own,za ⟨BdL.more h.bd.out.1 hK,dJ h.bd.out.2 hJ⟩,h.rd.more hM,h.dr,h.hR⟩
theorem zfE.far {ty:TypeId} {cs:Array Value}(h:zfE w0 W R M K J a B m d B' m' d' x)(hB:Blk W Z ty cs)(hf:Frm (fun k=>k=Z) W W')(hZ:w0.heap.size<=Z)(h2:ty≠3∧ty≠128∧ty≠4):zfE w0 W' R M K J a B m d B' m' d' x:=
 ⟨h.own.ar hB hf h2,h.bd,h.rd.frm hf (fun k hk e=>oH h.hR),h.dr.far hf hZ,h.hR⟩
theorem zfE.less (h:zfE w0 W R M K J a B m d B' m' d' x)(hd:Dr R w1 w0)(hR:R<w1.heap.size):zfE w1 W R M K J a B m d B' m' d' x:=
 ⟨h.own,h.bd,h.rd,hd.trans h.dr,hR⟩
theorem zfE.fin {us:Array Value}(h:zfE w0 W R M K J a B m d B' m' d' x)(hz:Blk W Z 33 us)(h5:us.size=5)(hZ:w0.heap.size<=Z) :
  Hid (RetCe R M K J w0 (.returned (.agg #[.bool hd,a.al,.slice B m d,.slice B' m' d',x])) (((((W.setCell Z (.bool hd)).setCell ⟨Z,1,none⟩ a.al).setCell ⟨Z,2,none⟩ (.slice B m d)).setCell ⟨Z,3,none⟩ (.slice B' m' d')).setCell ⟨Z,4,none⟩ x)) ∧
  Hid (Blk (((((W.setCell Z (.bool hd)).setCell ⟨Z,1,none⟩ a.al).setCell ⟨Z,2,none⟩ (.slice B m d)).setCell ⟨Z,3,none⟩ (.slice B' m' d')).setCell ⟨Z,4,none⟩ x) Z 33 #[.bool hd,a.al,.slice B m d,.slice B' m' d',x]):=by
 have b:=zab W Z (.bool hd) (.int .i64 a.al) (.slice B m d) (.slice B' m' d') (.string x);exact⟨za ⟨hd,a,B,m,d,B',m',d',x,rfl,h.far hz b hZ dM⟩,za (zaa hz h5 _ _ _ _ _)⟩
end
theorem bd_valid (h:zj a=true∨a=noA):BdA 12 a:=by
 rcases h with h|rfl
 ·obtain⟨f,⟨g,b⟩,i,c⟩:=zk h;refine⟨b,oM,fun l hl=>?_⟩;obtain⟨q,d⟩:=List.getElem?_of_mem hl;rw [(c q l d).1];exact dJ (zD _ _) oM
 ·exact⟨dF _,dF _,fun l hl=>by simp [noA] at hl⟩
theorem bd_autX (s t:Sys) (p:Aut):BdA 12 (zer (vpT s t p).code (vpT s t p).asm (vpT s t p).tr)∧(zeE (vpT s t p).code (vpT s t p).asm (vpT s t p).tr).size<=4000:=by
 refine⟨?_,?_⟩
 ·unfold zer;split
  ·exact bd_valid (vpT_asm s t p)
  ·exact bd_valid (.inr rfl)
 ·unfold zeE;split
  ·exact (zgK s t p).2
  ·exact dF _
theorem iface_and (s t:Sys) (p:Aut):∃ a:Nat,a<64∧bits .and .i64 (iface s p t) 63=(a:Int):=by
 rcases zbm s t p with h|⟨L,h⟩
 ·rw [h];exact⟨63,oM,dM⟩
 ·rw [h];exact⟨L&&&63,by have:=Nat.and_le_right (n:=L) (m:=63);omega,zdi (by have:=zjP h;unfold Sm;omega) (by unfold Sm;decide)⟩
theorem sl_pairR {g:Nat}  (hb:Blk w g 38 #[s.al,s.st,.slice A n c,t.al,t.st,.slice C k c2])(hg:R<g)(h:zbP w R A n s)(h':zbP w R C k t):zfF w (R+1) w.heap.size (some ⟨g,0,none⟩) 2 [s,t]:=by
 refine⟨rfl,[.int .i64 s.al,.int .i64 s.st,.slice A n c,.int .i64 t.al,.int .i64 t.st,.slice C k c2],⟨rfl,oM,fun _=>⟨_,rfl,hg,hb.lt,fun j u hu=>?_⟩⟩,fun j u hu=>?_⟩
 ·rw [zY,dT,hb.cell];simpa using hu
 ·match j with
  |0 =>
   simp at hu;subst hu;exact⟨A,n,c,rfl,rfl,rfl,h.at_⟩
  |1 =>
   simp at hu;subst hu;exact⟨C,k,c2,rfl,rfl,rfl,h'.at_⟩
  |j+2=>simp at hu
theorem yE17a2 {P:Prop}(h:P:=by
 go_wp2_with fail
 have cf:=f2.out.cell;exact bodyPost_ret (v:=.agg #[.bool false,(0:Int),(),(),x]) (by simp [results,Tryz.results112,go_sem,cf]) rfl f1.out
 ):P:=h
theorem spec_l13Draw (h:zca w w R M L K s A n c t C k c2 p B m d B' m' d')(hM:M<=600000000)(hL:L<=100000) :
  Calls Tryz.prog 112 #[.pointer (some R),.agg #[s.al,s.st,.slice A n c],.agg #[t.al,t.st,.slice C k c2],.agg #[p.al,.slice B m d,.slice B' m' d']] w (RetCe R (M+1000) 16 4000 w):=by
 have af:=h.hR;obtain⟨w0,U0⟩:∃ x,Hid ((((w.alloc (.cells #[s.al,s.st,.slice A n c] 38)).alloc (.cells #[t.al,t.st,.slice C k c2] 38)).alloc (.cells #[p.al,.slice B m d,.slice B' m' d'] 31)).alloc (.cells #[.bool false,(0:Int),(),(),.string ⟨#[]⟩] 33)=x):=⟨_,za rfl⟩;have aV:Ext w w0:=(((((cY _).alloc _).alloc _).alloc _).alloc _).trans (eP U0.out);obtain⟨b1,b2,b3⟩:=zL (((cY _).alloc _).trans (eP U0.out));have r:=Ext.bl_ U0.out;simp only [World.size_alloc] at r
 go_enter Tryz.func112,Tryz.ntmps112
 go_upto_region 1 with fail
 rw [U0.out] at *;have u:=h.ext aV;have aW:=r.lt;have cS:=b1.cell;have cT:=b2.cell;have cP:=b3.cell;obtain⟨S,am⟩:∃ v,hdX (vpT s t p).code (vpT s t p).asm (vpT s t p).tr=v:=⟨_,rfl⟩;obtain⟨ad,aa⟩:∃ v,zer (vpT s t p).code (vpT s t p).asm (vpT s t p).tr=v:=⟨_,rfl⟩;obtain⟨U,ab⟩:∃ v,zeE (vpT s t p).code (vpT s t p).asm (vpT s t p).tr=v:=⟨_,rfl⟩;obtain⟨aX,an⟩:∃ v,okC (vpT s t p).code (vpT s t p).asm (vpT s t p).tr=v:=⟨_,rfl⟩;have hC:=za (zgU (c:=c) (d:=d) (d':=d') (c2:=c2) u.is.at_ u.ip.reads u.it.at_ (oH u.ns) (dD _));have aE:=za (bd_autX s t p);rw [am,aa,ab,an] at hC;rw [aa,ab] at aE;clear am aa ab an;go_upto_region 2 with (first
  |(go_at_call 17;refine (hC.out).mono ?_;rintro e w1 ⟨D,q,f,D',q',f',rfl,ho,X⟩;clear cS cT cP))
 have aU:=X.size;have Y:=(cY w1).alloc (.cells #[.bool S,ad.al,.slice D q f,.slice D' q' f',U] 33);have V:=dV w1 33 #[.bool S,ad.al,.slice D q f,.slice D' q' f',U];have aD:=u.rd.lt;have j:zfE w (w1.alloc (.cells #[.bool S,ad.al,.slice D q f,.slice D' q' f',U] 33)) R M 12 4000 ad D q f D' q' f' U:=⟨(ho.ext Y).less oM,aE,(u.rd.ext X).ext Y,((u.dr.ext X).ext Y),af⟩;have au:=(u.ext X).ext Y;have J:=X.trans Y;replace b1:=b1.ext J;replace b2:=b2.ext J;replace b3:=b3.ext J;replace r:=r.ext J;clear ho Y J u hC;generalize hG:w1.heap.size=G at *;generalize w1.alloc _=w2 at *;go_wp2_with fail
 refine (zA au.rd oM).mono ?_;rintro e w3 ⟨y,rfl,-,-,ar,O⟩;have o:=au.drawn O ar;replace j:=j.drawn O ar;have aR:=o.rd.lt;replace b1:=b1.dr O oM;replace b2:=b2.dr O oM;replace b3:=b3.dr O oM;replace r:=r.dr O oM;replace V:=V.dr O oM;have aC:=za (show w.heap.size+4<=G by omega);clear au O ar X hG aU aW aD
 by_cases hy0:y=0
 ·subst hy0;have cS:=b1.cell;have cT:=b2.cell;have cP:=b3.cell;obtain⟨al,ha,a5⟩:=iface_and s t p;go_wp2_with fail
  refine (zbp (c:=c) (d1:=d) (d1':=d') (c2:=c2) o.is.at_ o.ip.reads o.it.at_).mono (mQ fun w4 z=>?_);generalize iface s p t=a7 at *;clear cS cT cP;go_wp2_with fail
  refine (ziu (o.rd.ext z) oM ha).mono ?_;rintro e w5 ⟨b,E,n5,c5,E',Q,F,rfl,ag,aT,T,l⟩;have a6:=z.size;have g:=(r.ext z).dr l oM;have i:zfE w w5 R (M+1+500) 16 0 b E n5 c5 E' Q F ⟨#[]⟩:=⟨ag.less oM,za ⟨BdA.of aT.out,dD _⟩,T,(o.dr.ext z).trans l,af⟩;obtain⟨f1,f2⟩:=(i.more (N:=M+1000) (H:=16) (I:=4000) oM oM oM).fin (hd:=true) g rfl oM;have cZ:=g.cell;have fZ:=g.frozen;clear g i ag;go_wp2_with fail
  have cf:=f2.out.cell;exact bodyPost_ret (v:=.agg #[.bool true,b.al,.slice E n5 c5,.slice E' Q F,.string ⟨#[]⟩]) (by simp [results,Tryz.results112,go_sem,cf]) rfl f1.out
 by_cases hy1:y=1
 ·subst hy1;have cS:=b1.cell;have cT:=b2.cell;go_upto_region 6 with fail
  have z:=(cY w3).alloc (.cells #[s.al,s.st,.slice A n c,t.al,t.st,.slice C k c2] 38);have bl:=dV w3 38 #[s.al,s.st,.slice A n c,t.al,t.st,.slice C k c2];have aF:=sl_pairR (R:=R) bl aR (o.is.ext z) (o.it.ext z);have aG:=o.ext z;replace r:=r.ext z;have HT:=za (spec_l7Trace (c:=2) (q:=5) aG.rd oM aF oM oM);clear aF bl;go_wp2_with fail
  refine HT.out.mono ?_;rintro e w5 ⟨x,rfl,hx,T,l⟩;have i:zfE w w5 R (M+1+2*5+2) 0 5 autZ none 0 0 none 0 0 x:=⟨zjW _ _,za ⟨bd_autZ _,hx⟩,T,aG.dr.trans l,af⟩;have g:=r.dr l oM;obtain⟨f1,f2⟩:=(i.more (N:=M+1000) (H:=16) (I:=4000) oM oM oM).fin (hd:=false) g rfl oM;dsimp only [autZ] at f1 f2;have cZ:=g.cell;have fZ:=g.frozen;clear g i cS cT;exact yE17a2
 by_cases hy2:y=2
 ·subst hy2;go_wp2_with fail
  refine (spec_l1Word (a:=7) (q:=4) o.rd oM oM oM).mono ?_;rintro e w5 ⟨x,rfl,hx,T,l⟩;have i:zfE w w5 R (M+1+4+2) 0 5 autZ none 0 0 none 0 0 x:=⟨zjW _ _,za ⟨bd_autZ _,oM⟩,T,o.dr.trans l,af⟩;have g:=r.dr l oM;obtain⟨f1,f2⟩:=(i.more (N:=M+1000) (H:=16) (I:=4000) oM oM oM).fin (hd:=false) g rfl oM;dsimp only [autZ] at f1 f2;have cZ:=g.cell;have fZ:=g.frozen;clear g i;exact yE17a2
 have h0:((y:Int)==0)=false:=by simp;omega
 have h1:((y:Int)==1)=false:=by simp;omega
 have h2:((y:Int)==2)=false:=by simp;omega
 clear b1 b2 b3 hy0 hy1 hy2 o;go_upto_block 0 with fail
 go_cut [] (fun wx=>∃ (hd:Bool) (a:Aut) (B:Option Addr) (m d:Nat) (B':Option Addr) (m' d':Nat) (x:ByteArray),Blk wx G 33 #[.bool hd,a.al,.slice B m d,.slice B' m' d',x]∧Blk wx (w.heap.size+1+1+1) 33 #[.bool false,(0:Int),(),(),.string ⟨#[]⟩]∧zfE w wx R (M+1000) 16 4000 a B m d B' m' d' x)
 case first =>
  have cG:=V.cell;have fG:=V.frozen;have aB:G≠w.heap.size+1+1+1:=oH aC.out;have a0:=aC.out
  by_cases hy3:y=3
  ·subst hy3;cases aX
   ·go_wp2_with fail
    go_meet;exact⟨_,_,_,_,_,_,_,_,_,V,r,j.more oM oM oM⟩
   ·cases S
    ·go_wp2_with fail
     go_meet;exact⟨_,_,_,_,_,_,_,_,_,V,r,j.more oM oM oM⟩
    ·go_wp2_with fail
     refine (zgE j.rd oM j.own j.bd.out.1 oM).mono ?_;rintro e w5 ⟨b,E,n5,c5,E',Q,F,rfl,ag,aS,T,l⟩;have i:=j.drawn l T;have Z:=V.dr l oM;have g:=r.dr l oM;clear cG fG;have cG:=Z.cell;have fG:=Z.frozen;have hf:Frm (fun k=>k=G) w5 (((w5.setCell ⟨G,1,none⟩ b.al).setCell ⟨G,2,none⟩ (.slice E n5 c5)).setCell ⟨G,3,none⟩ (.slice E' Q F)):=((dE w5 G 1 _).trans (dE _ G 2 _)).trans (dE _ G 3 _);have hB:Blk (((w5.setCell ⟨G,1,none⟩ b.al).setCell ⟨G,2,none⟩ (.slice E n5 c5)).setCell ⟨G,3,none⟩ (.slice E' Q F)) G 33 #[.bool true,.int .i64 b.al,.slice E n5 c5,.slice E' Q F,.string U]:=by
      simpa using ((Z.ab 1 (.int .i64 b.al)).ab 2 (.slice E n5 c5)).ab 3 (.slice E' Q F)
     have av:=(({ i with own:=ag.less oM,bd:=za ⟨aS.out,j.bd.out.2⟩ }:zfE w w5 R _ 13 4000 b E n5 c5 E' Q F U).far Z hf oM dM).more (N:=M+1000) (H:=16) (I:=4000) oM oM oM
     have aq:=g.frm hf (fun e=>aB e.symm);clear Z g hf;go_wp2_with fail
     go_meet;exact⟨_,_,_,_,_,_,_,_,_,hB,aq,av⟩
  ·have h3:((y:Int)==3)=false:=by simp;omega
   by_cases hy4:y=4
   ·subst hy4;have hf:=dE w3 G 0 (.bool (!S));have hB:Blk (w3.setCell G (.bool (!S))) G 33 #[.bool (!S),.int .i64 ad.al,.slice D q f,.slice D' q' f',.string U]:=by
     simpa using V.ab 0 (.bool (!S))
    have av:=(j.far V hf oM dM).more (N:=M+1000) (H:=16) (I:=4000) oM oM oM;have aq:=r.frm hf (fun e=>aB e.symm);go_wp2_with fail
    go_meet;exact⟨_,_,_,_,_,_,_,_,_,hB,aq,av⟩
   ·have h4:((y:Int)==4)=false:=by simp;omega
    go_wp2_with fail
    go_meet;exact⟨_,_,_,_,_,_,_,_,_,V,r,j.more oM oM oM⟩
 case rest =>
  clear j V r;obtain⟨hd,a,B,m,d,B',m',d',x,V,r,j⟩:=hcut;obtain⟨f1,f2⟩:=j.fin (hd:=hd) r rfl oM;have cG:=V.cell;have cZ:=r.cell;have fZ:=r.frozen;go_wp2_with fail
  have cf:=f2.out.cell;exact bodyPost_ret (v:=.agg #[.bool hd,a.al,.slice B m d,.slice B' m' d',x]) (by simp [results,Tryz.results112,go_sem,cf]) rfl f1.out
theorem zkh (h:zfE w w R M K J a B m d B' m' d' x)(hM:M<=600000000)(hK:K<=60)(hJ:J<=5000) :
  Calls Tryz.prog 111 #[.pointer (some R),.agg #[.bool hd,a.al,.slice B m d,.slice B' m' d',x]] w (RetCe R (M+100) (K+39) (J+1) w):=by
 have aG:=h.hR
 go_enter Tryz.func111,Tryz.ntmps111
 go_upto_region 1 with fail
 generalize U0:(w.alloc _).alloc _=w0 at *;obtain⟨O,j,o⟩:=Ext.x2_ U0;clear U0;have s:=h.ext O;go_wp2_with fail
 refine (zA s.rd oM).mono ?_;rintro e i ⟨y,rfl,-,-,t,f⟩;have b:=s.drawn f t;have aJ:=O.size;have ag:=b.dr.size;replace j:=j.dr f oM;replace o:=o.dr f oM;clear s f t O h;go_upto_block 0 with fail
 go_cut [] (fun wx=>∃ (a:Aut) (B:Option Addr) (m d:Nat) (B':Option Addr) (m' d':Nat) (x:ByteArray),Blk wx w.heap.size 33 #[.bool hd,a.al,.slice B m d,.slice B' m' d',x]∧Blk wx (w.heap.size+1) 33 #[.bool false,(0:Int),(),(),.string ⟨#[]⟩]∧zfE w wx R (M+100) (K+39) (J+1) a B m d B' m' d' x)
 case first =>
  have cG:=j.cell;have D:y=0∨y=1∨y=2∨3<=y:=oM;rcases D with Q|Q|Q|Q
  ·subst Q;have ah:True:=trivial;go_wp2_with fail
   refine (zcm b.rd oM b.own b.bd.out.1 oM).mono ?_;rintro e v1 ⟨a1,A1,n1,d1,B1,m1,e1,rfl,au,ao,af,G⟩;have E:=b.drawn G af;have ae:=b.rd.lt;have aH:=E.rd.lt;clear cG;go_wp2_with fail
   refine (zcm af oM (au.less oM) ao.out oM).mono ?_;rintro e v2 ⟨a2,A2,n2,d2,B2,m2,e2,rfl,av,ap,t,f⟩;have F:=E.drawn f t;have aI:=F.rd.lt;go_wp2_with fail
   refine (zcm t oM (av.less oM) ap.out oM).mono ?_;rintro e v3 ⟨U,S,n3,V,T,m3,Y,rfl,aw,aq,ax,L⟩;have ab:=F.drawn L ax;have c:=((j.dr G oM).dr f oM).dr L oM;have p:=((o.dr G oM).dr f oM).dr L oM;have cG:=c.cell;have fG:=c.frozen;have C:Frm (fun k=>k=w.heap.size) v3 (((v3.setCell ⟨w.heap.size,1,none⟩ U.al).setCell ⟨w.heap.size,2,none⟩ (.slice S n3 V)).setCell ⟨w.heap.size,3,none⟩ (.slice T m3 Y)):=((dE v3 w.heap.size 1 _).trans (dE _ w.heap.size 2 _)).trans (dE _ w.heap.size 3 _);have Z:Blk (((v3.setCell ⟨w.heap.size,1,none⟩ U.al).setCell ⟨w.heap.size,2,none⟩ (.slice S n3 V)).setCell ⟨w.heap.size,3,none⟩ (.slice T m3 Y)) w.heap.size 33 #[.bool hd,.int .i64 U.al,.slice S n3 V,.slice T m3 Y,.string x]:=by
    simpa using ((c.ab 1 (.int .i64 U.al)).ab 2 (.slice S n3 V)).ab 3 (.slice T m3 Y)
   have z:=(({ ab with own:=aw.less oM,bd:=za ⟨aq.out,b.bd.out.2⟩ }:zfE w v3 R _ (K+13+13+13) J U S n3 V T m3 Y x).far c C oM dM).more (N:=M+100) (H:=K+39) (I:=J+1) oM oM oM
   have r:=p.frm C oM;clear c p C;go_wp2_with fail
   go_meet;exact⟨_,_,_,_,_,_,_,_,Z,r,z⟩
  ·subst Q;have ah:True:=trivial;have aL:=b.bd.out.2;have aa:K<=K+39:=oM;generalize hK9:K+39=K9 at *;have aF:∀ W,Dr R i W->∀ q,W.cell? ⟨w.heap.size,q,none⟩=#[Value.bool hd,.int .i64 a.al,.slice B m d,.slice B' m' d',.string x][q]?:=fun W hW=>(j.dr hW oM).cell;clear cG;go_wp2_with fail
   refine tR (fun X=>Dr R i X) [7] (Ord.of [0,1,2,3,4,5,6,7]) ?_;refine tQ ?_;refine zC fun K hK=>?_;go_simp;refine hK.out _ _ ((Dr.refl R i).drew.alloc _) ?_;refine pT ?_;refine zC fun K hK=>?_;go_simp;have az:=(cY i).drew;have aA:=zbF i.drew (us:=#[.string ⟨#[103]⟩,.string ⟨#[97]⟩,.string ⟨#[45]⟩]) (n:=3) rfl rfl oM;have ae:=b.rd.lt;refine (l19Rd_of ((b.rd.ext az).ext ((cY _).alloc _)) oM (eA aA) (by show R<i.drew.heap.size;exact ae) oM).mono ?_;rintro e w4 ⟨u,hu,rfl,ay,ar⟩;have g:Dr R i w4:=((Dr.refl R i).drew.alloc _).trans ar;have aK:u.size<=1:=by
    simp [zkn] at hu;rcases hu with rfl|rfl|rfl<;>decide
   have aN:¬ (9223372036854775807<x.size+u.size):=oM;refine hK.out _ _ g ?_;refine pT ?_;refine tQ ?_;have ad:=b.drawn g ay;have c:=j.dr g oM;have p:=o.dr g oM;have fG:=c.frozen;have C:=dE w4 w.heap.size 4 (.string (x++u));have Z:Blk (w4.setCell ⟨w.heap.size,4,none⟩ (.string (x++u))) w.heap.size 33 #[.bool hd,.int .i64 a.al,.slice B m d,.slice B' m' d',.string (x++u)]:=by
    simpa using c.ab 4 (.string (x++u))
   have z:=(({ ad with bd:=za ⟨b.bd.out.1,by rw [ByteArray.size_append];omega⟩ }:zfE w w4 R _ _ (J+1) a B m d B' m' d' (x++u)).far c C oM dM).more (N:=M+100) (H:=K9) (I:=J+1) oM aa oM
   have r:=p.frm C oM;refine zT fun K hK=>?_;go_simp;refine hK.out _ _ ?_;refine zao ?_;clear c p C;go_wp2_with fail
   go_meet;exact⟨_,_,_,_,_,_,_,_,Z,r,z⟩
  ·subst Q;have ah:True:=trivial;have fG:=j.frozen;have C:Frm (fun k=>k=w.heap.size) i (((i.setCell ⟨w.heap.size,1,none⟩ (1:Int)).setCell ⟨w.heap.size,2,none⟩ ()).setCell ⟨w.heap.size,3,none⟩ ()):=((dE i w.heap.size 1 _).trans (dE _ w.heap.size 2 _)).trans (dE _ w.heap.size 3 _);have Z:Blk (((i.setCell ⟨w.heap.size,1,none⟩ (1:Int)).setCell ⟨w.heap.size,2,none⟩ ()).setCell ⟨w.heap.size,3,none⟩ ()) w.heap.size 33 #[.bool hd,.int .i64 (⟨1,[],[]⟩:Aut).al,.slice none 0 0,.slice none 0 0,.string x]:=by
    simpa using ((j.ab 1 (.int .i64 1)).ab 2 (.slice none 0 0)).ab 3 (.slice none 0 0)
   have z:=(({ b with own:=⟨⟨[],World.ownsRow_nil _ _ _ _,zH.nil _ _⟩,rfl,World.ownsRow_nil _ _ _ _,rfl⟩,bd:=za ⟨⟨dF _,dF _,fun l hl=>by simp at hl⟩,b.bd.out.2⟩ }:zfE w i R _ K J ⟨1,[],[]⟩ none 0 0 none 0 0 x).far j C oM dM).more (N:=M+100) (H:=K+39) (I:=J+1) oM oM oM
   have r:=o.frm C oM;go_wp2_with fail
   go_meet;exact⟨_,_,_,_,_,_,_,_,Z,r,z⟩
  ·have h0:((y:Int)==0)=false:=by simp;omega
   have h1:((y:Int)==1)=false:=by simp;omega
   have h2:((y:Int)==2)=false:=by simp;omega
   go_wp2_with fail
   go_meet;exact⟨_,_,_,_,_,_,_,_,j,o,b.more oM oM oM⟩
 case rest =>
  clear b j o ag;obtain⟨a,B,m,d,B',m',d',x,bc,o,b⟩:=hcut;obtain⟨f1,f2⟩:=b.fin (hd:=hd) o rfl oM;have cG:=bc.cell;have cZ:=o.cell;have fZ:=o.frozen;go_wp2_with fail
  have cf:=f2.out.cell;exact bodyPost_ret (v:=.agg #[.bool hd,a.al,.slice B m d,.slice B' m' d',x]) (by simp [results,Tryz.results111,go_sem,cf]) rfl f1.out
theorem zac.at_new {base:Nat}   {A':Option Addr} {n' c':Nat} (h:zac w base A n c A' n' c' a)(hl:lo<=base):zJ w lo w.heap.size A n A' n' a:=(h.less hl).reads
def RetDK (w:World) (e:Ending) (w':World):Prop:=
 ∃ (s:Sys) (A:Option Addr) (n c:Nat) (t:Sys) (C:Option Addr) (k c2:Nat) (p:Aut) (B:Option Addr) (m d:Nat) (B':Option Addr) (m' d':Nat) (hd:Bool) (a:Aut) (D:Option Addr) (q f:Nat) (D':Option Addr) (q' f':Nat) (x:ByteArray),
  e=.returned (.tuple #[.agg #[s.al,s.st,.slice A n c],.agg #[t.al,t.st,.slice C k c2],.agg #[p.al,.slice B m d,.slice B' m' d'],.agg #[.bool hd,a.al,.slice D q f,.slice D' q' f',x]]) ∧
  (zP w' w.heap.size w'.heap.size A n s∧zP w' w.heap.size w'.heap.size C k t∧zJ w' w.heap.size w'.heap.size B m B' m' p∧zJ w' w.heap.size w'.heap.size D q D' q' a) ∧
  Hid (((n<=100000∧n<=c)∧(k<=100000∧k<=c2))∧BdA 100 p∧BdA 100 a∧x.size<=5000)∧Ext w w'
theorem draw_ck {N H f q' f':Nat}   {D D':Option Addr}   {W':World} (hx:Ext w w1)(hR:w.heap.size<=R)(hT:zca w1 W R M L K s A n c t C k c2 p B m d B' m' d')(hC:zfE w1 W R N H J a D q f D' q' f' x)
  (hF:Frm S W W') (hS:∀ k,S k->w.heap.size<=k∧k<R) (hL:L<=100000) (hK:K<=100) (hH:H<=100) (hJ:J<=5000) :
  RetDK w (.returned (.tuple #[.agg #[s.al,s.st,.slice A n c],.agg #[t.al,t.st,.slice C k c2],.agg #[p.al,.slice B m d,.slice B' m' d'],.agg #[.bool hd,a.al,.slice D q f,.slice D' q' f',x]])) W':=by
 have b:Ext w W:=Dr.new hx hR hT.dr;have g:=hT.is.frm hF (fun k hk h1=>by have:=hS k hk;omega);have h:=hT.it.frm hF (fun k hk h1=>by have:=hS k hk;omega);have i:=hT.ip.keep hF (fun k h1 hk=>by have:=hS k hk;omega);have j:=hC.own.keep hF (fun k h1 hk=>by have:=hS k hk;omega);have l:=hT.ns;exact⟨s,A,n,c,t,C,k,c2,p,B,m,d,B',m',d',hd,a,D,q,f,D',q',f',x,rfl,⟨g.new hR,h.new hR,i.at_new oM,j.at_new oM⟩,za ⟨oM,BdL.more hT.bd.out hK,BdL.more hC.bd.out.1 hH,dJ hC.bd.out.2 hJ⟩,b.frm hF (fun k hk hk2=>by have:=hS k hk2;omega)⟩
theorem ziP {A0:Option Addr} {n0 c0:Nat} (h:Bytes w A0 n0)(hn:n0<=9223372036854775807)(hc:n0<=c0)(hc2:c0<=9223372036854775807) :
  Calls Tryz.prog 53 #[.slice A0 n0 c0] w (RetDK w):=by
 obtain⟨w0,U0⟩:∃ x,Hid ((((w.alloc (.cells #[(0:Int),(0:Int),()] 38)).alloc (.cells #[(0:Int),(0:Int),()] 38)).alloc (.cells #[(0:Int),(),()] 31)).alloc (.cells #[.bool false,(0:Int),(),(),.string ⟨#[]⟩] 33)=x):=⟨_,za rfl⟩;have aF:Ext w w0:=(((((cY _).alloc _).alloc _).alloc _).alloc _).trans (eP U0.out);obtain⟨u,o,l,i⟩:=zgh (eP U0.out);have bE:w0.heap.size=w.heap.size+4:=by rw [← U0.out];simp
 have hh:=za (h.ext aF);clear h
 go_enter Tryz.func53,Tryz.ntmps53
 go_upto_region 1 with fail
 rw [U0.out] at *;go_wp2_with fail
 refine (spec_l19Open hh.out hn hc hc2).mono ?_;rintro e w1 ⟨R,rfl,hR,aR,U⟩;have aU:=aF.trans U;have aN:=aR.lt;replace u:=u.ext U;replace o:=o.ext U;replace l:=l.ext U;replace i:=i.ext U;go_upto_region 3 with (first
  |(go_at_call 110;refine (spec_l12Draw aR oM).mono ?_;rintro e w2 ⟨s,A,n,c,t,C,k,c2,p,B,m,d,B',m',d',rfl,ht⟩))
 obtain⟨w3,U0⟩:∃ x,Hid (((w2.alloc (.cells #[s.al,s.st,.slice A n c] 38)).alloc (.cells #[t.al,t.st,.slice C k c2] 38)).alloc (.cells #[p.al,.slice B m d,.slice B' m' d'] 31)=x):=⟨_,za rfl⟩;have V:Ext w2 w3:=((((cY _).alloc _).alloc _).alloc _).trans (eP U0.out);obtain⟨Z,I,O⟩:=zL (eP U0.out);have bF:=ht.dr.size;have zz:=za (And.intro ((u.dr ht.dr oM).ext V) (And.intro ((o.dr ht.dr oM).ext V) (And.intro ((l.dr ht.dr oM).ext V) ((i.dr ht.dr oM).ext V))));have ad:=ht.ext V;have aT:w3.heap.size=w2.heap.size+3:=by rw [← U0.out];simp
 clear ht V u o l i;generalize hG:w2.heap.size=G at *;rw [U0.out] at *;clear hG;have cS:=Z.cell;have cT:=I.cell;have cP:=O.cell;have HD:=za (spec_l13Draw ad.own oM oM);have bD:=ad.ns;go_upto_region 4 with (first
  |(go_at_call 112;refine HD.out.mono ?_;rintro e w4 ⟨a2,a4,D4,q4,f4,aY,a3,a0,x4,rfl,aa⟩;have aQ:=za (zkh (hd:=a2) ({ aa with dr:=Dr.refl _ _,hR:=aa.rd.lt }:zfE w4 w4 R _ 16 4000 a4 D4 q4 f4 aY a3 a0 x4) oM oM oM))
  |(go_at_call 111;refine aQ.out.mono ?_;rintro e w5 ⟨hd,a,D,q,f,D',q',f',x,rfl,aD⟩))
 have Q:=aa.dr;have ab:=aD.dr;have aG:=(cY w5).alloc (.cells #[.bool hd,a.al,.slice D q f,.slice D' q' f',x] 33);have bc:=dV w5 33 #[.bool hd,a.al,.slice D q f,.slice D' q' f',x];have g:Dr R w3 (w5.alloc (.cells #[.bool hd,a.al,.slice D q f,.slice D' q' f',x] 33)):=(Q.trans ab).ext aG;have z:=((aD.less Q aa.hR).ext aG).less ad.dr aN;have af:=ad.drawn g z.rd;have aS:=(Q.trans ab).size;replace Z:=Z.dr g oM;replace I:=I.dr g oM;replace O:=O.dr g oM;obtain⟨u,o,l,i⟩:=zz.out;replace zz:=za (And.intro (u.dr g oM) (And.intro (o.dr g oM) (And.intro (l.dr g oM) (i.dr g oM))));clear aa aD Q ab aG g ad u o l i HD aQ cS cT cP aF U;have r:=za (show G+3<=w5.heap.size∧R<G by omega);generalize hGe:w5.heap.size=Gc at *;generalize w5.alloc _=w6 at *;clear hGe aS aT;have cS:=Z.cell;have cT:=I.cell;have cP:=O.cell;have HS:=za (spec_l9Spoil af.own oM oM oM);go_wp2_with fail
 refine HS.out.mono ?_;rintro e w7 ⟨J,A7,n7,c7,L,C7,k7,d7,p7,B7,m7,e7,E,H,F,rfl,ag⟩;have bB:=af.rd.lt;have g:=ag.dr;replace z:=z.drawn g ag.rd;have M:=ag.less af.dr aN;replace Z:=Z.dr g (oH r.out);replace I:=I.dr g (oH r.out);replace O:=O.dr g (oH r.out);replace bc:=bc.dr g (oH r.out);obtain⟨u,o,l,i⟩:=zz.out;replace zz:=za (And.intro (u.dr g oM) (And.intro (o.dr g oM) (And.intro (l.dr g oM) (i.dr g oM))));clear af ag g u o l i HS cS cT cP;have cS:=Z.cell;have fS:=Z.frozen;have cT:=I.cell;have fT:=I.frozen;have cP:=O.cell;have fP:=O.frozen;go_upto_region 5 with fail
 have b:=zam w7 G (.int .i64 J.al) (.int .i64 J.st) (.slice A7 n7 c7);have q1:=zaH Z rfl (.int .i64 J.al) (.int .i64 J.st) (.slice A7 n7 c7);replace M:=M.far Z b oM dM dM;replace z:=z.far Z b oM dM;replace I:=I.frm b oM;replace O:=O.frm b oM;replace bc:=bc.frm b (oH r.out);obtain⟨u,o,l,i⟩:=zz.out;replace u:=u.frm b oM;replace o:=o.frm b oM;replace l:=l.frm b oM;replace i:=i.frm b oM;clear zz b Z cS fS cT fT cP fP;generalize ((w7.setCell G J.al).setCell ⟨G,1,none⟩ J.st).setCell ⟨G,2,none⟩ (.slice A7 n7 c7)=w8 at *;have b:=zam w8 (G+1+1) (.int .i64 p7.al) (.slice B7 m7 e7) (.slice E H F);have q3:=zaH O rfl (.int .i64 p7.al) (.slice B7 m7 e7) (.slice E H F);replace M:=M.far O b oM dM dM;replace z:=z.far O b oM dM;replace I:=I.frm b oM;replace q1:=q1.frm b oM;replace bc:=bc.frm b (oH r.out);replace u:=u.frm b oM;replace o:=o.frm b oM;replace l:=l.frm b oM;replace i:=i.frm b oM;clear b O;generalize ((w8.setCell ⟨G+1+1,0,none⟩ p7.al).setCell ⟨G+1+1,1,none⟩ (.slice B7 m7 e7)).setCell ⟨G+1+1,2,none⟩ (.slice E H F)=w9 at *;have b:=zam w9 (G+1) (.int .i64 L.al) (.int .i64 L.st) (.slice C7 k7 d7);have q2:=zaH I rfl (.int .i64 L.al) (.int .i64 L.st) (.slice C7 k7 d7);replace M:=M.far I b oM dM dM;replace z:=z.far I b oM dM;replace q1:=q1.frm b oM;replace q3:=q3.frm b oM;replace bc:=bc.frm b (oH r.out);replace u:=u.frm b oM;replace o:=o.frm b oM;replace l:=l.frm b oM;replace i:=i.frm b oM;clear b I;generalize ((w9.setCell ⟨G+1,0,none⟩ L.al).setCell ⟨G+1,1,none⟩ L.st).setCell ⟨G+1,2,none⟩ (.slice C7 k7 d7)=S at *;have cS:∀ W,Frm (fun k=>k=w.heap.size∨k=w.heap.size+1∨k=w.heap.size+1+1) S W->∀ q,W.cell? ⟨G,q,none⟩=#[Value.int .i64 J.al,.int .i64 J.st,.slice A7 n7 c7][q]?:=fun W hW=>(q1.frm hW (oH r.out)).cell;have cT:∀ W,Frm (fun k=>k=w.heap.size∨k=w.heap.size+1∨k=w.heap.size+1+1) S W->∀ q,W.cell? ⟨G+1,q,none⟩=#[Value.int .i64 L.al,.int .i64 L.st,.slice C7 k7 d7][q]?:=fun W hW=>(q2.frm hW (oH r.out)).cell;have cP:∀ W,Frm (fun k=>k=w.heap.size∨k=w.heap.size+1∨k=w.heap.size+1+1) S W->∀ q,W.cell? ⟨G+1+1,q,none⟩=#[Value.int .i64 p7.al,.slice B7 m7 e7,.slice E H F][q]?:=fun W hW=>(q3.frm hW (oH r.out)).cell;have cC:∀ W,Frm (fun k=>k=w.heap.size∨k=w.heap.size+1∨k=w.heap.size+1+1) S W->∀ j,W.cell? ⟨Gc,j,none⟩=#[Value.bool hd,.int .i64 a.al,.slice D q f,.slice D' q' f',.string x][j]?:=fun W hW=>(bc.frm hW (oH r.out)).cell;have aO:Frm (fun k=>k=w.heap.size∨k=w.heap.size+1∨k=w.heap.size+1+1) S S.drew:=(cY S).drew.aj;have Y:=(cY S).drew;have a1:Frm (fun k=>k=w.heap.size∨k=w.heap.size+1∨k=w.heap.size+1+1∨k=w.heap.size+1+1+1) S S:=Frm.refl _ _;clear q1 q2 q3 bc;go_wp2_with fail
 refine tR (fun X=>Frm (fun k=>k=w.heap.size∨k=w.heap.size+1∨k=w.heap.size+1+1) S X) [7] (Ord.of [0,1,2,3,4,5,6,7]) ?_;refine tQ ?_;have y:Frm (fun k=>k=w.heap.size∨k=w.heap.size+1∨k=w.heap.size+1+1∨k=w.heap.size+1+1+1) S S.drew:=Y.aj;replace u:=u.ext Y;replace o:=o.ext Y;replace l:=l.ext Y;replace i:=i.ext Y;clear a1;generalize hwD:S.drew=wD at *;clear hwD Y;have k1:=u.cell;have g1:=u.frozen;refine zC fun K hK=>?_;go_simp;have r1:=zaH u rfl (.int .i64 J.al) (.int .i64 J.st) (.slice A7 n7 c7);have b:=zam wD w.heap.size (.int .i64 J.al) (.int .i64 J.st) (.slice A7 n7 c7);replace o:=o.frm b oM;replace l:=l.frm b oM;replace i:=i.frm b oM;have aB:=aO.trans (b.mono (T:=fun k=>k=w.heap.size∨k=w.heap.size+1∨k=w.heap.size+1+1) (fun k _ hk=>.inl hk));replace y:=y.trans (b.mono (T:=fun k=>k=w.heap.size∨k=w.heap.size+1∨k=w.heap.size+1+1∨k=w.heap.size+1+1+1) (fun k _ hk=>.inl hk));refine hK.out _ _ aB ?_;refine pT ?_;clear k1 g1 u b aO;generalize ((wD.setCell w.heap.size J.al).setCell ⟨w.heap.size,1,none⟩ J.st).setCell ⟨w.heap.size,2,none⟩ (.slice A7 n7 c7)=wA at *;have k1:=o.cell;have g1:=o.frozen;refine zC fun K hK=>?_;go_simp;have r2:=zaH o rfl (.int .i64 L.al) (.int .i64 L.st) (.slice C7 k7 d7);have b:=zam wA (w.heap.size+1) (.int .i64 L.al) (.int .i64 L.st) (.slice C7 k7 d7);replace r1:=r1.frm b oM;replace l:=l.frm b oM;replace i:=i.frm b oM;have aC:=aB.trans (b.mono (T:=fun k=>k=w.heap.size∨k=w.heap.size+1∨k=w.heap.size+1+1) (fun k _ hk=>.inr (.inl hk)));replace y:=y.trans (b.mono (T:=fun k=>k=w.heap.size∨k=w.heap.size+1∨k=w.heap.size+1+1∨k=w.heap.size+1+1+1) (fun k _ hk=>.inr (.inl hk)));refine hK.out _ _ aC ?_;refine pT ?_;clear k1 g1 o b aB;generalize ((wA.setCell ⟨w.heap.size+1,0,none⟩ L.al).setCell ⟨w.heap.size+1,1,none⟩ L.st).setCell ⟨w.heap.size+1,2,none⟩ (.slice C7 k7 d7)=wB at *;have k1:=l.cell;have g1:=l.frozen;refine zC fun K hK=>?_;go_simp;have r3:=zaH l rfl (.int .i64 p7.al) (.slice B7 m7 e7) (.slice E H F);have b:=zam wB (w.heap.size+1+1) (.int .i64 p7.al) (.slice B7 m7 e7) (.slice E H F);replace r1:=r1.frm b oM;replace r2:=r2.frm b oM;replace i:=i.frm b oM;have aP:=aC.trans (b.mono (T:=fun k=>k=w.heap.size∨k=w.heap.size+1∨k=w.heap.size+1+1) (fun k _ hk=>.inr (.inr hk)));replace y:=y.trans (b.mono (T:=fun k=>k=w.heap.size∨k=w.heap.size+1∨k=w.heap.size+1+1∨k=w.heap.size+1+1+1) (fun k _ hk=>.inr (.inr (.inl hk))));refine hK.out _ _ aP ?_;refine pT ?_;clear k1 g1 l b aC;generalize ((wB.setCell ⟨w.heap.size+1+1,0,none⟩ p7.al).setCell ⟨w.heap.size+1+1,1,none⟩ (.slice B7 m7 e7)).setCell ⟨w.heap.size+1+1,2,none⟩ (.slice E H F)=wC at *;have k1:=i.cell;have g1:=i.frozen;refine zT fun K hK=>?_;go_simp;have r4:=zaa i rfl (.bool hd) (.int .i64 a.al) (.slice D q f) (.slice D' q' f') (.string x);have b:=zab wC (w.heap.size+1+1+1) (.bool hd) (.int .i64 a.al) (.slice D q f) (.slice D' q' f') (.string x);replace r1:=r1.frm b oM;replace r2:=r2.frm b oM;replace r3:=r3.frm b oM;replace y:=y.trans (b.mono (T:=fun k=>k=w.heap.size∨k=w.heap.size+1∨k=w.heap.size+1+1∨k=w.heap.size+1+1+1) (fun k _ hk=>.inr (.inr (.inr hk))));refine hK.out _ _ ?_;refine zao ?_;have a7:=za (draw_ck (hd:=hd) aU oM M z y (fun k hk=>oM) oM oM oM oM);clear k1 g1 i b aP y cS cT cP cC;generalize (((((wC.setCell ⟨w.heap.size+1+1+1,0,none⟩ (.bool hd)).setCell ⟨w.heap.size+1+1+1,1,none⟩ a.al).setCell ⟨w.heap.size+1+1+1,2,none⟩ (.slice D q f)).setCell ⟨w.heap.size+1+1+1,3,none⟩ (.slice D' q' f')).setCell ⟨w.heap.size+1+1+1,4,none⟩ x)=wF at *;go_wp2_with fail
 have c1:=r1.cell;have aZ:=r2.cell;have c3:=r3.cell;have c4:=r4.cell;exact bodyPost_ret (v:=.tuple #[.agg #[J.al,J.st,.slice A7 n7 c7],.agg #[L.al,L.st,.slice C7 k7 d7],.agg #[p7.al,.slice B7 m7 e7,.slice E H F],.agg #[.bool hd,a.al,.slice D q f,.slice D' q' f',x]]) (by simp [results,Tryz.results53,go_sem,c1,aZ,c3,c4]) rfl a7.out
theorem check_fails (hc:zE false a x=true) :
  (zcR s t p false a x=0↔zhQ [s,t] x=true∧zcC p x=true)∧zcR s t p false a x≠3∧zcR s t p false a x≠4∧zcR s t p false a x≠5:=by
 unfold zcR zeJ
 by_cases h1:iface s p t<0
 ·rw [if_pos h1];refine⟨⟨fun h=>oM,fun ⟨h2,h3⟩=>?_⟩,oM,oM,oM⟩;rw [zgm] at h1;have b:zl s=true∧zl t=true:=by
   unfold zhQ at h2;simp only [dG] at h2;have:=h2.1;simp only [zB,dG,List.all_cons,List.all_nil] at this;simp at this;exact this
  have c:zj p=true:=by
   unfold zcC at h3;simp only [dG] at h3;exact h3.1
  rw [b.1,b.2,c] at h1;cases h1
 ·rw [if_neg h1,hc,if_neg dM,if_pos rfl];cases h2:zhQ [s,t] x<;>cases h3:zcC p x<;>simp
theorem cert_accepted (h:okC (vpT s t p).code (vpT s t p).asm (vpT s t p).tr=true) :
  zcR s t p (hdX (vpT s t p).code (vpT s t p).asm (vpT s t p).tr) (zer (vpT s t p).code (vpT s t p).asm (vpT s t p).tr) (zeE (vpT s t p).code (vpT s t p).asm (vpT s t p).tr)=0:=by
 unfold hdX zer zeE;rw [h,Bool.true_and,if_pos rfl,if_pos rfl];rcases zbm s t p with b|⟨L,b⟩
 ·rw [zfb b] at h;unfold okC at h;simp at h
 ·have a:=vpT_ok b;rcases a.code with c|d|i
  ·rw [c] at h ⊢;rw [okC0] at h;exact zhp.2 ⟨h,vpT_fault c⟩
  ·rw [d] at h ⊢;rw [okC1] at h;obtain⟨f1,f2⟩:=a.fails d;obtain⟨k,l,m⟩:=zbx (s:=s) (p:=p) (t:=t) oM;have j:zbL [s,t] p=true:=by
    rw [zes,show zcx [s,t] p=true by unfold zcx;rw [l,zgw sM sM (by simp [k,m])];rfl] at f1;simpa using f1
   obtain⟨f,g⟩:=brok_top j;rw [← f2] at f g;exact (check_fails h).1.2 ⟨f,g⟩
  ·rw [i] at h;unfold okC at h;simp at h
theorem check_against {b:Aut} {he:Bool} {y:ByteArray}(h1:zcR s t p hd a x=0)(h2:zcR s t p he b y=0):he=hd:=(check_sound h2).symm.trans (check_sound h1)
section
open Go.ChangeShapes Go.WideShapes Go.ChangeAt Go.Deep
def BytesAt (w:World) (A:Option Addr) (n c:Nat):Prop:=Bytes w A n∧n<=9223372036854775807∧n<=c∧c<=9223372036854775807
theorem arg_bytes {H:Type} {enc:TypeId × Value->H}  {spare:Nat->Bool} {held:Bool} {r:Reach} {b0:Nat}  {d:DataW H} {p:List MemPlace}(hv:Value.okWide Tryz.prog w r b0 62 v)(h:DataW.Trod enc Tryz.prog w 0 spare held 62 v d p) :
  ∃ (A:Option Addr) (n c:Nat),v=.slice A n c∧BytesAt w A n c:=by
 obtain⟨a,l,k,rfl⟩:=okWide_slice Tryz.underlying62 hv;obtain⟨t,F⟩:=h;rcases open_slice1 Tryz.underlying62 kM F with ⟨f,_⟩|⟨s,L,B,m,n,V,D,M,f,R,G,J,q,_,z⟩
 ·simp [Value.cells] at f;obtain⟨rfl,rfl,rfl⟩:=f;exact⟨_,_,_,rfl,fun h=>absurd h oM,oM,dD _,oM⟩
 ·simp [Value.cells] at f;obtain⟨rfl,rfl,rfl⟩:=f;unfold maxLen at J;have I:l<=m:=by rw [q];split<;>omega
  refine⟨_,_,_,rfl,fun hn=>?_,oM,G,oM⟩;have u:=(z 0 oM).1;have y:=zdX u;have g:=World.block_lt_of_cell? w _ u;rw [zja] at g;refine⟨s.block,s.off,by rw [← y],g,fun j hj=>?_⟩;obtain⟨x,C⟩:=z j oM;obtain⟨b,i,_,o⟩:=DataW.trod_int Tryz.underlying5 C;have E:V j=.int .u8 b:=by simpa using i
  rw [E,y,zY] at x;have S:0<=b∧b<256:=by
   simp only [Lit.wf,dG,decide_eq_true_eq] at o;have O:IntKind.u8.min=0:=rfl;have Q:IntKind.u8.max=255:=rfl;omega
  refine⟨b.toNat,oM,?_⟩;rw [x];have:((b.toNat:Nat):Int)=b:=oM;rw [this]
end
end Go.Proofs.YtcfchopfijalpaaGreatDoor
