/- spec.ParseAu -/
import Derived.Test.YtckbjnndaaoddaaGreatDoorT16
set_option maxHeartbeats 4000000
set_option maxRecDepth 100000
namespace Go.Proofs.YtckbjnndaaoddaaGreatDoor
open Go Go.RowKit
open Blk renaming new->eO
open Ext renaming bl_->eM,refl->dB
open Frm renaming ae->fF,setCell->dG
open Int renaming natCast_add->gV
open List renaming dropLast_concat_getLast->jV,getElem?_append_right->eD,getElem?_eq_getElem->dE,getElem?_map->eC,length_append->eA,length_set->fT,length_singleton->eH,length_take->e9,mem_of_getElem?->dC,mem_singleton->fB,take_of_length_le->dK,getElem?_eq_some_iff->kT,length_eq_zero_iff->lJ,mem_append->kY
open Nat renaming and_le_left->gW,eq_zero_or_pos->gZ,le_of_lt->kH,le_refl->dD,lt_of_le_of_lt->jE,lt_of_lt_of_le->eI,lt_or_ge->e7,mod_eq_of_lt->iE,pow_le_pow_right->eL,testBit_lt_two_pow->iF,zero_add->eK,zero_le->dH
open Option renaming map_eq_some_iff->fW,none->gP,some->gO
open Reads renaming af->eQ
open Bool renaming false->kK,true->kC
open Go renaming Calls->kQ,Value->kL,World->kJ
open Go.Ending renaming returned->kP
open Go.IntKind renaming i64->kA
open Go.Value renaming agg->kO,pointer->kV,slice->fQ
open Option.some renaming inj->kS
open _root_.Go.Proofs.Tryz renaming prog->kN
variable {A A':Option Addr}{L M R Z a base c c' c1 c2 g hi i j k l lo n n' p x:Nat}{W w w0 w1 w2:kJ}{b:Aut}{s:Sys}{ss:List Sys}{t:TypeId}{v:kL}
def RetParA (R M L:Nat) (w:kJ) (e:Ending) (w':kJ):Prop:=
 ∃ (b:Aut) (A:Option Addr) (n c:Nat) (A':Option Addr) (n' c':Nat) (ok:Bool),e=kP (.tuple #[kO #[b.al,fQ A n c,fQ A' n' c'],.bool ok])/\zM w' w.heap.size A n c A' n' c' b/\Hid (BdA L b)/\Rd w' R M/\Dr R w w'
theorem zjW (hR:R<w.heap.size)(h:Rd W R M)(hd:Dr R w W)(hZ:w.heap.size<=Z) :
  Hid (RetParA R M L w (kP (.tuple #[kO #[(0:Int),(),()],.bool kK])) (((W.setCell Z (0:Int)).setCell ⟨Z,1,gP⟩ ()).setCell ⟨Z,2,gP⟩ ())):=
 za ⟨⟨0,[],[]⟩,gP,0,0,gP,0,0,kK,rfl,⟨⟨[],World.ownsRow_nil _ _ _ _,zC.nil _ _⟩,rfl,World.ownsRow_nil _ _ _ _,rfl⟩,za ⟨dH _,dH _,fun l hl=>by simp at hl⟩,h.frm (zP W Z _ _ _) (fun k hk e=>oM),((hd.ag (p:=⟨Z,0,gP⟩) hZ _).ag (p:=⟨Z,1,gP⟩) hZ _).ag (p:=⟨Z,2,gP⟩) hZ _⟩
theorem yT17a2 {P:Prop}(h:P:=by
 go_wp2_with fail
 have hfb:=zab bz4 rfl (.int .i64 0) (.slice none 0 0) (.slice none 0 0);have cf:=hfb.cell;exact bodyPost_ret (v:=.tuple #[.agg #[(0:Int),(),()],.bool false]) (by simp [results,Tryz.results166,go_sem,cf]) rfl hno4.out
 ):P:=h
theorem yT17a4 {P:Prop}(h:P:=by
 have cf:=hfb.cell;exact bodyPost_ret (v:=.tuple #[.agg #[(0:Int),(),()],.bool false]) (by simp [results,Tryz.results166,go_sem,cf]) rfl hno.out
 ):P:=h
theorem zfH {x:ByteArray}(h:Rd w R M)(hx:x.size<=1000) :
  kQ kN 166 #[x] w (RetParA R M (x.size+1) w):=by
 have hRl:=h.lt
 go_enter Tryz.func166,Tryz.ntmps166
 go_wp2_with fail
 generalize U0:w.alloc _=w0 at *;have o:=Ext.al_ U0;have bz:=eM U0;have aX:=bz.lt;clear U0;refine (spec_l19Cut1 (s:=x) oM).mono ?_;rintro e w1 ⟨B,m,d,l,rfl,ar,ae,ai,y,hm,aW⟩;have aG:=za y;have bj:=za ar;have bH:m<=1001:=oM;clear y ar;obtain⟨gB,rfl,bD,-⟩:=zW ai ae;obtain⟨ad,x0,Y,-,-,bd,an⟩:=(eQ ai).str (k:=0) ae;obtain rfl:=kS Y;rw [zZ,Nat.add_zero] at an;have bc:(0:Int)<(m:Int):=oM;go_wp2_with fail
 refine (zdw (x:=x0)).mono ?_;rintro e w2 ⟨al,aZ,rfl,ha,ax⟩;have u:=aW.trans ax;have V:=bz.ext u;have aH:=V.cell;have aI:=V.frozen;have hno:=zjW (L:=x.size+1) (M:=M) (Z:=w.heap.size) hRl (h.ext (o.trans u)) (o.trans u).dr (dD _);cases aZ
 ·go_wp2_with fail
  have hfb:=zab V rfl (.int kA 0) (fQ gP 0 0) (fQ gP 0 0);exact yT17a4
 ·have bG:=eO w2 27 #[al,(),()];have af:=(dB w2).alloc (.cells #[al,(),()] 27);have aT:=u.size;have aC:=zh ai ax;have bB:=za (show ∀ W,Ext w2 W->Ext w W from fun W hW=>(o.trans u).trans hW);go_upto_region 6 with fail
  have aD:=zh aC af;have f:zcf w0 (w2.alloc (.cells #[al,(),()] 27)) R w2.heap.size M al (fQ gP 0 0) [] [] (fQ gP 0 0) []:=⟨bG,World.ownsRow_nil _ _ _ _,zC.nil _ _,World.ownsRow_nil _ _ _ _,(h.ext (o.trans u)).ext af,(u.trans af).dr,oM,aT⟩;generalize w2.alloc _=w3 at *;generalize w2.heap.size=G at *;clear hno aH aI an aC;go_wp2_with fail
  go_loopw [8] (fun iv wr=>∃ (i:Nat) (v:kL) (q:List kL) (n:List (List Int)) (vA:kL) (g:List Bool),1<=i/\i<=m/\iv=.int kA (i:Nat)/\zcf w0 wr R G M al v q n vA g/\Hid (n.length<=i - 1)/\Hid (g.length=n.length)/\Hid (∀ l∈n,l.length<=x.size+1)/\wr.ownsRow w0.heap.size 9 1 (fQ (gO gB) m d) m (zO l)) (fun iv _=>m - (intOf iv).toNat)
  case atStart=>exact⟨1,_,_,[],_,[],dD _,ae,rfl,f,za (dH _),za rfl,za (fun l hl=>by simp at hl),aD⟩
  case round =>
   clear f aD;obtain⟨i,v,q,n,vA,g,bE,hi,rfl,f,F,aa,y,H⟩:=hrel;have hno:=zjW (L:=x.size+1) (M:=M) (Z:=w.heap.size) hRl f.rd (o.dr.trans f.dr) (dD _);have D:=bz.dr f.dr oM
   by_cases hlt:i<m
   ·obtain⟨ad,C,Y,-,-,ay,ao⟩:=(eQ H).str hlt;obtain rfl:=kS Y;rw [zZ,eK] at ao;have bA:=aG.out C (dC ay.out);cases he:C.toList.isEmpty
    ·have bu:1<=C.size:=by
      rcases gZ C.size with h0|h0
      ·rw [ByteArray.toList_eq] at he;have e2:C.data.toList.length=C.size:=rfl;rw [List.eq_nil_of_length_eq_zero (e2.trans h0)] at he;cases he
      ·exact h0
     have a9:(1:Int)<=(C.size:Int):=oM;have bC:(C.extract 1 C.size).size<=x.size:=by rw [ByteArray.size_extract];omega
     go_wp2_with fail
     refine (spec_l3Parse (s:=C.extract 1 C.size) oM).mono ?_;rintro e w4 ⟨Ar,nr,cr,lr,ok,rfl,aQ,av,bI,j⟩;cases ok
     ·have hno4:=zjW (L:=x.size+1) (M:=M) (Z:=w.heap.size) hRl (f.rd.ext j) ((o.dr.trans f.dr).ext j) (dD _);have bz4:=D.ext j;have cz:=bz4.cell;have fz:=bz4.frozen;exact yT17a2
     ·subst aQ;have ap:=za f.low;have aS:=za f.dr.size;have c:=f.ext j;have r:=zh H j;have cG:=c.blk.cell;have aU:=c.dr.size;have bF:n.length<=1001:=oH F.out;have ak:=za ay.out;have au:=hno;clear f H ao hno au;go_upto_region 15 with (at_builtin;refine zL w0 w4 rfl _ _ _ rfl 110 _ 1 24 Tryz.underlying24 zbH rfl dM v n.length q _ _ rfl rfl aU c.nx rfl (zaK _ _ _) lM oM ?_;intro g5 cap5 w6 hown6 hg6 hat6 hlt6;obtain⟨q1,q2,q3⟩:=c.az ap.out aS.out av hown6 hg6 hat6;have a0:=q1.out;have t:=(zf r (fF hg6) (fun b hb hS=>zan r c.nx dM hb hS)))
      have I:=zf t (dG w6 G 1 (fQ (gO g5) (n.length+1) cap5)) (fun b hb hS=>by
       have aN:Blk w6 G 27 #[.int kA al,v,vA]:=(hg6.block G c.blk.lt (fun e=>zq c.nx c.blk dM e.symm rfl)).trans c.blk;exact zq t aN dM hb hS)
      have T:=za (show (n++[lr]).length<=i by have:=F.out;simp;omega);have S:=za (show g.length+1=(n++[lr]).length by have:=aa.out;simp;omega);have aq:=za (show ∀ l'∈n++[lr],l'.length<=x.size+1 from fun l' hl'=>by
       rcases kY.1 hl' with h1|h1
       ·exact y.out l' h1
       ·rw [List.mem_singleton.1 h1];omega)
      clear q1 a0 q2 hown6 hg6 hat6 hlt6 t r c cG F aa y av;generalize n++[lr]=aY at *;generalize q++[fQ Ar lr.length cr]=a2 at *;generalize w6.setCell ⟨G,1,gP⟩ (fQ (gO g5) (n.length+1) cap5)=w7 at *;generalize fQ (gO g5) (n.length+1) cap5=v7 at *;obtain⟨bl,z,am,-,-,U,E⟩:=(eQ I).str hlt;obtain rfl:=kS am;rw [zZ,eK] at E;obtain rfl:z=C:=kS (U.out.symm.trans ak.out);have cG:=fun W (hW:Ext w7 W)=>(q3.blk.ext hW).cell;have cS:∀ W,Ext w7 W->W.cell? ⟨gB,i,gP⟩=gO (.string z):=fun W hW=>hW.aa E;have aK:0<z.size:=oM;have a8:(0:Int)<(z.size:Int):=oM;have bw:=zcJ z 0 aK;obtain⟨bb,bx⟩:∃ bb,((z[0].toNat:Int)==43)=bb:=⟨_,rfl⟩;have aV:=dB w7;clear E U ak;refine uR (fun X=>Ext w7 X) [9,11] (zx.of [0,1,2,3,4,5,6,7,8,9,10,11]) ?_;refine uQ ?_;have ag:=aV.drew;refine ze fun K hK=>?_;go_simp;refine hK.out _ _ (ag.alloc _) ?_;refine pT ?_;refine zb fun K hK=>?_;have bJ:=q3.dr.size;have p:=q3.ext ag;have ba:g.length<=1001:=by have:=S.out;have:=T.out;omega
      have J:=zh I ag;refine zaB w0 w7.drew _ _ _ rfl 4 _ 1 1 Tryz.underlying25 zaW rfl dM vA g.length (zae g) _ _ rfl rfl p.dr.size p.acc rfl (by simp [Value.oneCell']) lM oM ?_;intro g8 cap8 w8 hown8 hg8 hat8 hlt8;refine hK.out _ _ ?_;refine pT ?_;refine uQ ?_;obtain⟨p1,p2,p3⟩:=p.ar (x:=bb) (W':=w8) hown8 hg8 hat8;have bO:=p1.out;have O:=zf J (fF hg8) (fun b hb hS=>zan J p.acc dM hb hS);have Q:=zf O (dG w8 G 2 (fQ (gO g8) (g.length+1) cap8)) (fun b hb hS=>by
       have aO:Blk w8 G 27 #[.int kA al,v7,vA]:=(hg8.block G p.blk.lt (fun e=>zq p.acc p.blk dM e.symm rfl)).trans p.blk;exact zq O aO dM hb hS)
      refine zb fun K hK=>?_;go_simp;refine hK.out _ _ ?_;refine zg ?_;go_wp2_with fail
      go_roundw
      case rel=>exact⟨i+1,_,_,aY,_,g++[bb],oM,oM,gM,p3,za (oH T.out),za (by have:=S.out;simp;omega),aq,Q⟩
      case measure=>exact uM
    ·have cz:=D.cell;have fz:=D.frozen;go_wp2_with fail
     have hfb:=zab D rfl (.int kA 0) (fQ gP 0 0) (fQ gP 0 0);exact yT17a4
   ·obtain⟨A5,c5,rfl⟩:=zi f.nx;obtain⟨B5,d5,rfl⟩:=zi f.acc;have aP:zF wr w0.heap.size wr.heap.size A5 n.length B5 g.length (⟨al,n,g⟩:Aut):=⟨zfg.reads ⟨q,f.nx,f.rows⟩ rfl,rfl,eQ f.acc⟩;have cG:=f.blk.cell;clear hno;go_wp2_with fail
    refine (zfl (a:=⟨al,n,g⟩) aP).mono ?_;rintro e w4 ⟨tx,rfl,-,j⟩;have c:=f.ext j;have hno4:=zjW (L:=x.size+1) (M:=M) (Z:=w.heap.size) hRl (f.rd.ext j) ((o.dr.trans f.dr).ext j) (dD _);have bz4:=D.ext j;have cz:=bz4.cell;have fz:=bz4.frozen;have bq:=c.blk.cell;clear cG;cases hne:tx.toList==x.toList
    ·exact yT17a2
    ·obtain⟨f1,f2⟩:=c.fin (N:=M) (sh:=BdA (x.size+1)) o bz rfl hRl (dD _) aX (dD _) ⟨by have:=F.out;show n.length<=_;omega,by have:=F.out;have:=aa.out;show g.length<=_;omega,y.out⟩;go_wp2_with fail
     have cf:=f2.cell;obtain⟨b,A6,n6,c6,A7,n7,c7,he,aR,aw,hr6,hd6⟩:=f1.out;exact bodyPost_ret (v:=.tuple #[kO #[al,fQ A5 n.length c5,fQ B5 g.length d5],.bool kC]) (by simp [results,Tryz.results166,go_sem,cf]) rfl ⟨b,A6,n6,c6,A7,n7,c7,kC,by injection he with he;rw [he],aR,aw,hr6,hd6⟩
theorem bits_all (y:Nat)(hy:y<64):bits .and kA (-1) (y:Int)=(y:Int):=
 (show ∀ y:Fin 64,bits .and kA (-1) ((y.val:Nat):Int)=((y.val:Nat):Int) by decide +kernel) ⟨y,hy⟩
theorem yT17a1 {P:Prop}(h:P:=by
 obtain⟨f1,f2⟩:=zjw (N:=M+600) (sh:=zhz) hxz zkr hsh.out hr6 hd6 bz rfl hRl (Nat.le_refl _) (Nat.le_refl _);have bz5:=bz.dr hd6 oM;have cZ:=bz5.cell;have fZ:=bz5.frozen;go_wp2_with fail
 have cf:=f2.cell;exact bodyPost_ret (v:=.agg #[b.al,.slice A n c,.slice A' n' c']) (by simp [results,Tryz.results205,go_sem,cf]) rfl f1.out
 ):P:=h
theorem zhe {zz:Int}(h:Rd w R M)(hM:M<=700000000)(ha:(∃ a:Nat,zz=(a:Int)/\a<64)\/zz = -1) :
  kQ kN 205 #[kV (gO R),zz] w (zix R (M+600) zhz w):=by
 have hRl:=h.lt
 go_enter Tryz.func205,Tryz.ntmps205
 have hxz:=(dB w).alloc (.cells #[(0:Int),(),()] 27);have bz:=eO w 27 #[(0:Int),(),()];have v:(w.alloc (.cells #[(0:Int),(),()] 27)).heap.size=w.heap.size+1:=sM;go_wp2_with fail
 rw [<- v];generalize w.alloc _=C at *;refine (zbV [63,63,5,3,6] 5 #[(63:Int),(63:Int),(5:Int),(3:Int),(6:Int)] rfl rfl oM oM (h.ext hxz) oM).mono ?_;rintro e G ⟨x,hx,rfl,q,j⟩;obtain⟨y,hy,rfl⟩:∃ y:Nat,y<64/\x=(y:Int):=⟨x.toNat,by simp at hx;omega,by simp at hx;omega⟩;clear hx;replace j:=((Dr.refl R C).alloc _).trans j;obtain⟨d,l,r⟩:∃ d:Nat,bits .and kA zz (y:Int)=(d:Int)/\d<64:=by
  rcases ha with ⟨a,rfl,ha⟩|rfl
  ·exact⟨a&&&y,zbC tM tM,jE gW ha⟩
  ·exact⟨y,bits_all y hy,hy⟩
 go_upto_region 2 with fail
 clear l;go_wp2_with fail
 refine (zJ q oM).mono ?_;rintro e H ⟨z,rfl,-,-,i,f⟩;replace f:=j.trans f;clear j q;go_upto_if 13 with fail
 go_cut [5] (fun s5 wx=>∃ d:Nat,d<64/\s5=.int kA (d:Nat)/\Rd wx R (M+10)/\Dr R C wx)
 case first =>
  by_cases hz:z=0
  ·subst hz;go_wp2_with fail
   refine (spec_l1Some i oM).mono ?_;rintro e F ⟨x,hx,rfl,k,g⟩;go_wp2_with fail
   go_meet;exact⟨x,hx,rfl,k.more oM,f.trans g⟩
  ·have E:((z:Int)==0)=kK:=by simp;omega
   go_wp2_with fail
   go_meet;exact⟨d,r,rfl,i.more oM,f⟩
 case rest =>
  clear i f r;obtain⟨d,s,rfl,i,f⟩:=hcut;go_wp2_with fail
  refine (zJ i oM).mono ?_;rintro e F ⟨y,rfl,-,-,k,g⟩;replace g:=f.trans g
  by_cases hy:0<y
  ·have B:((y:Int)>0):=oM;go_wp2_with fail
   refine (zbV [3,2,4,1] 4 #[(3:Int),(2:Int),(4:Int),(1:Int)] rfl rfl oM oM k oM).mono ?_;rintro e I ⟨x,hx,rfl,u,t⟩;obtain⟨p,o,D,rfl⟩:∃ y:Nat,1<=y/\y<=4/\x=(y:Int):=⟨x.toNat,by simp at hx;omega,by simp at hx;omega,by simp at hx;omega⟩;clear hx;have m:=(g.alloc _).trans t;go_wp2_with fail
   refine (zid u oM s o oM).mono ?_;intro e w6 hret;obtain⟨b,A,n,c,A',n',c',rfl,zkr,hsh,hr6,hd6⟩:=hret.mono (N:=M+600) (sh':=zhz) m oM (fun b hb=>⟨d,p,s,o,oM,hb⟩);exact yT17a1
  ·have B:¬ ((y:Int)>0):=oM;go_wp2_with fail
   refine (spec_l3Over k oM s).mono ?_;intro e w6 hret;obtain⟨b,A,n,c,A',n',c',rfl,zkr,hsh,hr6,hd6⟩:=hret.mono (N:=M+600) (sh':=zhz) g oM (fun b hb=>hb);exact yT17a1
section
variable {w0 W W':kJ}{R G H M N:Nat}{s t:Sys}{A B:Option Addr}{n c m d:Nat}
theorem blk_fill {cs:Array kL}{t:TypeId}(h:Blk w Z t cs)(hc:cs.size=3) (u0 u1 u2:kL):Blk (((w.setCell Z u0).setCell ⟨Z,1,gP⟩ u1).setCell ⟨Z,2,gP⟩ u2) Z t #[u0,u1,u2]:=by
 obtain⟨l⟩:=cs
 match l,hc with
 |[a,b,c],_=>simpa using ((h.ab 0 u0).ab 1 u1).ab 2 u2
end
theorem Dr.new (h:Ext w w1)(hR:w.heap.size<=R)(hd:Dr R w1 w2):Ext w w2:=
 h.frm hd (fun k hk he=>oM)
theorem zdy (h:Rd w R M)(hM:M<=800000000) :
  kQ kN 116 #[kV (gO R)] w (RetG R (M+30000) 20000 w):=by
 have hRl:=h.lt;have l:=(dB w).alloc (.cells #[(0:Int),(0:Int),()] 38);have bz5:=eO w 38 #[(0:Int),(0:Int),()];have u:=h.ext l;have C:=l.dr (R:=R);have U:=bz5.lt
 go_enter Tryz.func116,Tryz.ntmps116
 go_wp2_with fail
 have G:=(zbV [3,6,7,5,2] 5 #[(3:Int),(6:Int),(7:Int),(5:Int),(2:Int)] rfl rfl oM oM u oM);simp only [World.size_alloc] at G;refine G.mono ?_;rintro e Y ⟨al,f,rfl,hr6,hd6⟩;have D:=(C.ext ((dB _).alloc _)).trans hd6;have m:=(bz5.ext ((dB _).alloc _)).dr hd6 oM;go_wp2_with fail
 refine (zbV [2,3,1,3] 4 #[(2:Int),(3:Int),(1:Int),(3:Int)] rfl rfl oM oM hr6 oM).mono ?_;rintro e Z ⟨J,b,rfl,x,i⟩;have E:=(D.ext ((dB _).alloc _)).trans i;have n:=(m.ext ((dB _).alloc _)).dr i oM;go_wp2_with fail
 refine (zbV [2,3,4] 3 #[(2:Int),(3:Int),(4:Int)] rfl rfl oM oM x oM).mono ?_;rintro e w8 ⟨X,_,rfl,y,j⟩;have F:=(E.ext ((dB _).alloc _)).trans j;have o:=(n.ext ((dB _).alloc _)).dr j oM;obtain⟨a,rfl,S⟩:∃ a:Nat,al=a/\a<64:=⟨al.toNat,by simp at f;omega,by simp at f;omega⟩;obtain⟨p,rfl,t,T⟩:∃ p:Nat,J=p/\1<=p/\p<=16:=⟨J.toNat,by simp at b;omega,by simp at b;omega,by simp at b;omega⟩;clear f b;go_wp2_with fail
 refine (zkf y oM S t T).mono ?_;rintro e w9 ⟨I,O,V,H,rfl,B,r,s,z,k⟩;have d:=o.dr k oM;have g:=za (ret_fill (R:=R) (M:=M+30000) (L:=20000) (c:=H) B r s (z.more oM) (F.trans k) d hRl (dD _));have q:=d.cell;have Q:=d.frozen;go_wp2_with fail
 exact bodyPost_ret (v:=kO #[I.al,I.st,fQ O V H]) (by simp [results,Tryz.results116,go_sem,q]) rfl g.out
structure Ent where
 s:Sys
 A:Option Addr
 n:Nat
 c:Nat
def Ent.cs (e:Ent):List kL:=[.int kA e.s.al,.int kA e.s.st,fQ e.A e.n e.c]
def zgx (l:List Ent):List kL:=l.flatMap Ent.cs
theorem entC_snoc (l:List Ent) (e:Ent):zgx (l++[e])=zgx l++e.cs:=by simp [zgx]
theorem entC_length (l:List Ent):(zgx l).length=l.length*3:=by
 induction l with
 |nil=>rfl
 |cons e r ih =>
  show (e.cs++zgx r).length=_;rw [eA,ih,List.length_cons];show 3+_=_;omega
theorem zhk {l:List Ent}{e:Ent}(h:l[k]?=gO e):(zgx l)[k*3]?=gO (.int kA e.s.al)/\(zgx l)[k*3+1]?=gO (.int kA e.s.st)/\(zgx l)[k*3+2]?=gO (fQ e.A e.n e.c):=by
 induction l generalizing k with
 |nil=>simp at h
 |cons a r ih =>
  have d:zgx (a :: r)=a.cs++zgx r:=rfl;rw [d];cases k with
  |zero =>
   simp at h;subst h;exact⟨rfl,rfl,rfl⟩
  |succ k =>
   simp only [List.getElem?_cons_succ] at h;obtain⟨f,g,i⟩:=ih h;have b:a.cs.length=3:=rfl;refine⟨?_,?_,?_⟩
   ·rw [eD oM,b,show (k+1)*3 - 3=k*3 by omega];exact f
   ·rw [eD oM,b,show (k+1)*3+1 - 3=k*3+1 by omega];exact g
   ·rw [eD oM,b,show (k+1)*3+2 - 3=k*3+2 by omega];exact i
def Ent.ok (e:Ent) (W:kJ) (R:Nat):Prop:=zcB W R e.A e.n e.s/\e.n<=50000/\e.n<=e.c
structure Sld (w0 W:kJ) (R M:Nat) (v:kL) (l:List Ent):Prop where
 own:W.ownsRow w0.heap.size 38 3 v l.length (zgx l)
 ent:∀ e∈l,e.ok W R
 rd:Rd W R M
 dr:Dr R w0 W
 hR:R<w0.heap.size
theorem own_sys {size:Nat}{xs:List kL}(h:w.ownsRow base 38 size v n xs) (hk:v.ownBlock=gO k):∀ cs,w.heap[k]?≠gO (.cells cs 117 (0,0)):=by
 rcases h.2 with ⟨rfl,_⟩|⟨g,a,b,rfl,_,c,_⟩
 ·simp [Value.ownBlock] at hk
 ·have:g=k:=by simpa [Value.ownBlock] using hk
  subst this;intro cs e;rw [c] at e;injection e with e
  injection e with _ e2
  exact absurd e2 dM
section
variable {w0 W W':kJ}{R M N:Nat}{v:kL}{l:List Ent}
theorem Ent.ok.dr {e:Ent}(h:e.ok W R)(hd:Dr R W W'):e.ok W' R:=⟨h.1.dr hd,h.2⟩
theorem Sld.drawn (h:Sld w0 W R M v l)(hd:Dr R W W')(hr:Rd W' R N):Sld w0 W' R N v l:=
 ⟨zaN h.own hd (fun b h1 e=>oH h.hR),fun e he=>(h.ent e he).dr hd,hr,h.dr.trans hd,h.hR⟩
theorem Sld.ext (h:Sld w0 W R M v l)(hx:Ext W W'):Sld w0 W' R M v l:=h.drawn hx.dr (h.rd.ext hx)
theorem Sld.more (h:Sld w0 W R M v l)(hM:M<=N):Sld w0 W R N v l:={ h with rd:=h.rd.more hM }
theorem Sld.less (h:Sld w0 W R M v l)(hd:Dr R w1 w0)(hR:R<w1.heap.size):Sld w1 W R M v l:=
 ⟨zn h.own hd.size,h.ent,h.rd,hd.trans h.dr,hR⟩
theorem Sld.grown (h:Sld w0 W R M v l)(hg:W.grownBy W' v.ownBlock):(∀ e:Ent,e.ok W R->e.ok W' R)/\Dr R w0 W'/\Rd W' R M:=by
 have a:=h.hR;refine⟨fun e he=>⟨he.1.frm (fF hg) (fun k hk _=>own_sys h.own hk),he.2⟩,h.dr.grown hg (fun k hk=>(h.own.lt k hk).1),h.rd.frm (fF hg) (fun k hk hS=>by have:=(h.own.lt k hS).1;omega)⟩
theorem Sld.push {e:Ent}{cap:Nat}(h:Sld w0 W R M v l)(he:e.ok W R)
  (zkr:W'.ownsRow w0.heap.size 38 3 (fQ (gO g) (l.length+1) cap) (l.length+1) (zgx l++e.cs)) (hg:W.grownBy W' v.ownBlock) :
  Sld w0 W' R M (fQ (gO g) (l.length+1) cap) (l++[e]):=by
 obtain⟨a,b,c⟩:=h.grown hg;refine⟨by rw [entC_snoc,eA,eH];exact zkr,fun x hx=>?_,c,b,h.hR⟩;rcases kY.1 hx with hx|hx
 ·exact a x (h.ent x hx)
 ·rw [fB] at hx;subst hx;exact a _ he
theorem Sld.sl (h:Sld w0 W R M (fQ A n c) l)(hn:n=l.length):zeo W (R+1) W.heap.size A n (l.map Ent.s):=by
 have b:=h.own;rw [<- hn] at b;have i:=eQ b;refine⟨by simpa using hn,zgx l,i.more (oH h.hR) (dD _),fun k s hs=>?_⟩;rw [eC,fW] at hs;obtain⟨e,a,rfl⟩:=hs;obtain⟨d,f,g⟩:=zhk a;exact⟨e.A,e.n,e.c,d,f,g,(h.ent e (dC a)).1.at_⟩
end
theorem Sld.nil (hr:Rd W R M)(hd:Dr R w0 W)(hR:R<w0.heap.size):Sld w0 (W.alloc (.cells #[] 38)) R M (fQ (gO W.heap.size) 0 0) []:=
 ⟨zn (World.ownsRow_lit W #[] 0 (dD _) lM rfl) hd.size,fun _ h=>by simp at h,hr.ext ((dB _).alloc _),hd.alloc _,hR⟩
theorem Sld.three {a b c:Ent}(hr:Rd W R M)(hd:Dr R w0 W)(hR:R<w0.heap.size)(ha:a.ok W R)(hb:b.ok W R)(hc:c.ok W R) :
  Sld w0 (W.alloc (.cells #[a.s.al,a.s.st,fQ a.A a.n a.c,b.s.al,b.s.st,fQ b.A b.n b.c,c.s.al,c.s.st,fQ c.A c.n c.c] 38)) R M (fQ (gO W.heap.size) 3 3) [a,b,c]:=by
 have hx:=(dB W).alloc (.cells #[a.s.al,a.s.st,fQ a.A a.n a.c,b.s.al,b.s.st,fQ b.A b.n b.c,c.s.al,c.s.st,fQ c.A c.n c.c] 38);refine⟨zn (World.ownsRow_lit W _ 3 (dD _) lM rfl) hd.size,fun e he=>?_,hr.ext hx,hd.alloc _,hR⟩;simp only [List.mem_cons,List.not_mem_nil,or_false] at he;rcases he with rfl|rfl|rfl
 ·exact ha.dr hx.dr
 ·exact hb.dr hx.dr
 ·exact hc.dr hx.dr
theorem pickA (h:1<=(p:Int)->(x:Int)<p)(h0:(p:Int)<1->x=0):x<p+1:=by
 rcases e7 0 p with a|a
 ·have:=h oM;omega
 ·have:=h0 oM;omega
theorem e_filledA {M' E y:Nat}{w4:kJ}(hb:Blk w4 E 117 #[(0:Int),(0:Int),(0:Int)])(hr:Rd w4 R M')(hd:Dr R w2 w4)(hE:w2.heap.size<=E)(hR:R<w2.heap.size)(hx:x<p+1)(hy:y<p+1)(hM:M'<=M) :
  ∃ E' x' y':Nat,Value.pointer (gO E)=.pointer (gO E')/\x'<p+1/\y'<p+1/\w2.heap.size<=E'/\Blk (((w4.setCell E x).setCell ⟨E,1,gP⟩ (0:Int)).setCell ⟨E,2,gP⟩ y) E' 117 #[x',(0:Int),y']/\Rd (((w4.setCell E x).setCell ⟨E,1,gP⟩ (0:Int)).setCell ⟨E,2,gP⟩ y) R M/\Dr R w2 (((w4.setCell E x).setCell ⟨E,1,gP⟩ (0:Int)).setCell ⟨E,2,gP⟩ y):=by
 have a:=zdk w4 E (.int kA x) (.int kA 0) (.int kA y);refine⟨E,x,y,rfl,oM,oM,hE,by simpa using ((hb.ab 0 (.int kA x)).ab 1 (.int kA 0)).ab 2 (.int kA y),(hr.frm a (fun k h1 h2=>oM)).more hM,?_⟩;exact ((hd.ag (p:=⟨E,0,gP⟩) hE _).ag (p:=⟨E,1,gP⟩) hE _).ag (p:=⟨E,2,gP⟩) hE _
theorem ziJ {es:List Edg}(h:Rd w R M)(hM:M<=900000000)(hs:zcB w R A n ⟨a,p,es⟩)(ha:a<64)(hp:p<=16)(hfew:Few (p+1) es)(hn:n<=L)(hL:L<=100000) :
  kQ kN 182 #[kV (gO R),kO #[a,p,fQ A n c]] w (RetA R (M+10) (L+1) w):=by
 have hRl:=h.lt;have bb:=hs.at_.2;have b5:=za hs.1;have aV:=za hfew;have bC:Sm a:=tM;obtain⟨w1,U0⟩:∃ x,Hid (((w.alloc (.cells #[a,p,fQ A n c] 38)).alloc (.cells #[(0:Int),(0:Int),()] 38)).alloc (.cells #[a,p,()] 38)=x):=⟨_,za rfl⟩;have bg:Ext w w1:=((((dB _).alloc _).alloc _).alloc _).trans (Ext.eq_ U0.out);obtain⟨bS,bZ,bG⟩:=zaa (Ext.eq_ U0.out);have aT:=za bS;have aU:=za bZ;have ap:=za bG;have aq:=za bg;clear bS bZ bG bg hs hfew
 go_enter Tryz.func182,Tryz.ntmps182
 go_wp2_with fail
 rw [U0.out] at *;refine (zJ (h.ext aq.out) oM).mono ?_;rintro e V ⟨Y,rfl,-,-,U,ai⟩;have cb:=ap.out.lt;have az:=aT.out.dr ai oM;have a1:=aU.out.dr ai oM;have aw:=ap.out.dr ai oM;have be:=aq.out.dr.trans ai;have cS:∀ W,Dr R V W->∀ q,W.cell? ⟨w.heap.size,q,gP⟩=#[Value.int kA a,.int kA p,fQ A n c][q]?:=fun W hW=>(az.dr hW oM).cell;go_upto_region 3 with fail
 go_cut [7] (fun s7 wx=>∃ E x y:Nat,s7=.pointer (gO E)/\x<p+1/\y<p+1/\V.heap.size<=E/\Blk wx E 117 #[x,(0:Int),y]/\Rd wx R (M+3)/\Dr R V wx)
 case first =>
  refine tR (fun X=>Dr R V X) [10] (Ord.app [0,1,2,4,5,6] (Ord.two 3 (Ord.two 7 (Ord.of [8,9,10]) 9 (Ord.of [7,8,10])) 9 (Ord.of [3,7,8,10]))) ?_;refine tQ ?_;refine zgt (fun K hK=>?_) (fun K hK=>?_)
  ·go_simp;refine (zJ (n:=p) (U.ext ((dB _).drew)) oM).mono ?_;rintro e w3 ⟨x,rfl,hx,aP,O,D⟩;have r:Dr R V w3:=((Dr.refl R V).drew).trans D;refine hK.out _ _ r ?_;refine pT ?_;refine zgt (fun K hK=>?_) (fun K hK=>?_)
   ·go_simp;refine (zJ (n:=p) O oM).mono ?_;rintro e w4 ⟨y,rfl,hy,aj,G,T⟩;have j:=r.trans T;refine hK.out _ _ j ?_;refine pT ?_;refine tQ ?_;refine zK fun K hK=>?_;go_simp;refine hK.out _ _ (j.alloc _) ?_;refine pT ?_;refine tQ ?_;refine zad fun K hK=>?_;go_simp;refine hK.out _ _ ?_;refine zaF ?_;go_wp2_with fail
    go_meet;exact⟨w4.heap.size,x,y,rfl,oM,oM,j.size,eO _ _ _,G.ext ((dB _).alloc _),j.alloc _⟩
   ·go_simp;have bi:=(dB w3).alloc (.cells #[(0:Int),(0:Int),(0:Int)] 117);have aa:=r.ext bi;have bd:=O.ext bi;have a6:=O.lt;refine hK.out _ _ aa ?_;generalize U0:w3.alloc _=ch at *;have aI:=eM U0;clear U0;refine pT ?_;refine zK fun K hK=>?_;go_simp;refine (zJ (n:=p) bd oM).mono ?_;rintro e w4 ⟨y,rfl,hy,aj,G,T⟩;have j:=aa.trans T;have S:=aI.dr T oM;refine hK.out _ _ j ?_;refine pT ?_;refine tQ ?_;have cE:=S.cell;have fE:=S.frozen;refine zad fun K hK=>?_;go_simp;refine hK.out _ _ ?_;refine zaF ?_;go_wp2_with fail
    go_meet;exact e_filledA S G j r.size U.lt (pickA hx aP) (pickA hy aj) oM
  ·go_simp;have bh:=((dB V).alloc (.cells #[(0:Int),(0:Int),(0:Int)] 117)).drew;have bu:Blk (V.alloc (.cells #[(0:Int),(0:Int),(0:Int)] 117)).drew V.heap.size 117 #[.int kA 0,.int kA 0,.int kA 0]:=eO V _ _;have bc:=U.ext bh;have a6:=U.lt;have al:Dr R V (V.alloc (.cells #[(0:Int),(0:Int),(0:Int)] 117)).drew:=bh.dr;refine hK.out _ _ al ?_;generalize (V.alloc (.cells #[(0:Int),(0:Int),(0:Int)] 117)).drew=cg at *;refine pT ?_;refine zK fun K hK=>?_;go_simp;refine (zJ (n:=p) bc oM).mono ?_;rintro e w3 ⟨x,rfl,hx,aP,O,D⟩;have r:=al.trans D;have aI:=bu.dr D oM;refine hK.out _ _ r ?_;refine pT ?_;refine zK fun K hK=>?_;go_simp;refine (zJ (n:=p) O oM).mono ?_;rintro e w4 ⟨y,rfl,hy,aj,G,T⟩;have j:=r.trans T;have S:=aI.dr T oM;refine hK.out _ _ j ?_;refine pT ?_;refine tQ ?_;have cE:=S.cell;have fE:=S.frozen;refine zad fun K hK=>?_;go_simp;refine hK.out _ _ ?_;refine zaF ?_;go_wp2_with fail
   go_meet;exact e_filledA S G j (dD _) a6 (pickA hx aP) (pickA hy aj) oM
 case rest =>
  obtain⟨E,x,y,rfl,hx,hy,hE,aJ,O,D⟩:=hcut;have bf:=be.trans D;have aA:=az.dr D oM;have a2:=a1.dr D oM;have aY:=aw.dr D oM;have cc:=aw.lt;clear cS;have cS:=aA.cell;go_wp2_with fail
  refine (zai a bC _).mono ?_;rintro e w4 ⟨B,d,rfl,ab,Q⟩;have aL:=bf.ext Q;have aB:=aA.ext Q;have aD:=a2.ext Q;have ax:=aY.ext Q;have ar:=aJ.ext Q;have G:=O.ext Q;have bY:=aJ.lt;have bx:=zB a 6;have ba:=za (fun k (hk:k∈letters a 6)=>(zeg.1 hk).1);have am:=(eQ ab);have bT:=D.size;have bU:=Q.size;have b2:=U.lt;clear cS ab Q aA a2 aY aJ O bf aT aU ap aq az a1 aw be U;generalize letters a 6=ls at *;go_upto_region 5 with fail
  go_cut [9] (fun s9 wx=>∃ b:Bool,s9=.bool b/\(b=kC->0<ls.length)/\Rd wx R (M+4)/\Dr R w4 wx)
  case first =>
   by_cases hl:0<ls.length
   ·go_wp2_with fail
    refine (zJ G oM).mono ?_;rintro e w5 ⟨z,rfl,-,-,ae,J⟩;go_wp2_with fail
    go_meet;exact⟨_,rfl,fun _=>hl,ae,J⟩
   ·go_wp2_with fail
    go_meet;exact⟨kK,rfl,fun h=>by (first|cases h|omega),G.more oM,Dr.refl _ _⟩
  case rest =>
   obtain⟨b,rfl,aK,ae,J⟩:=hcut;go_upto_if 42 with fail
   go_cut [] (fun wx=>∃ l:Nat,l<6/\Blk wx E 117 #[x,l,y]/\Blk wx w.heap.size 38 #[a,p,fQ A n c]/\Blk wx (w.heap.size+1) 38 #[(0:Int),(0:Int),()]/\Blk wx (w.heap.size+1+1) 38 #[a,p,()]/\Rd wx R (M+5)/\Dr R w wx)
   case first =>
    have aC:=aB.dr J oM;have aE:=aD.dr J oM;have ay:=ax.dr J oM;have au:=ar.dr J oM;have aN:=aL.trans J;clear aB aD ax ar aL G;cases b
    ·go_wp2_with fail
     go_meet;exact⟨0,oM,au,aC,aE,ay,ae.more oM,aN⟩
    ·have b7:=aK rfl;have bw:(1:Int)<=(ls.length:Int):=oM;clear aK;go_wp2_with fail
     refine (zJ ae oM).mono ?_;rintro e w6 ⟨z,rfl,hz,-,hr6,hd6⟩;have cd:=hz bw;have bj:z<ls.length:=oM;obtain⟨ad,l,rfl,_,_,hl,b8⟩:=((am.dr J oM).dr hd6 oM).nat bj;have a9:=ba.out l (dC hl.out);have bq:=aC.dr hd6 oM;have br:=aE.dr hd6 oM;have bp:=ay.dr hd6 oM;have av:=au.dr hd6 oM;have bD:=aN.trans hd6;have cE:=av.cell;have fE:=av.frozen;have hf:=dG w6 E 1 (.int kA (l:Nat));clear hz aC aE ay au aN;go_wp2_with fail
     go_meet;exact⟨l,a9,by simpa using av.ab 1 (.int kA (l:Nat)),bq.frm hf oM,br.frm hf oM,bp.frm hf oM,(hr6.frm hf (fun k h1 h2=>oM)),bD.ag (by dsimp only;omega) _⟩
   case rest =>
    obtain⟨l,hl,bE,bS,bZ,bG,bB,a7⟩:=hcut;clear aB aD ax ar aL G J ae ba am bx aK;obtain⟨wB,bF⟩:∃ wB,wB=wc:=⟨_,rfl⟩;subst bF;have f:Acc w wB wB R (w.heap.size+1+1) (M+5) a p (fQ gP 0 0) []:=⟨bG,World.ownsRow_nil _ _ _ _,bB,a7,Frm.refl _ _,hRl,a7.size,oM⟩;have b1:=bE.lt;have b3:=bG.lt;clear bG;go_wp2_with fail
    go_loopw [9,10] (fun v i wr=>∃ (b:Bool) (k:Nat),k<=n/\i=.int kA k/\v=.bool b/\∃ (u:kL) (m:List Edg),Acc w wB wr R (w.heap.size+1+1) (M+5) a p u m/\m.length+b.toNat<=k+1/\Hid (Few (p+1) m)) (fun _ i _=>n - (intOf i).toNat)
    case atStart=>exact⟨b,0,dH _,rfl,rfl,_,[],f,by cases b<;>decide,few_nil (p+1)⟩
    case round =>
     clear f;obtain⟨b,k,hk,rfl,rfl,u,m,f,o,F⟩:=hrel;have I:=bS.frm f.fr oM;have t:=bE.frm f.fr oM;have cS:=I.cell;have an:(0<=(x:Int)/\(x:Int)<((p+1:Nat):Int))/\(0<=(l:Int)/\(l:Int)<6)/\(0<=(y:Int)/\(y:Int)<((p+1:Nat):Int)):=oM
     by_cases hlt:k<n
     ·obtain⟨b0,o0,C,rfl,b9,b6,he,c0,c1,c2⟩:=(bb.dr f.dr oM).aw hlt;have a8:=za (aV.out C (dC he.out));go_upto_region 11 with fail
      clear cS
      go_cut [67] (fun s wx=>∃ q:Bool,s=.bool q/\(q=kC->b=kC)/\Ext wr wx)
      case first =>
       have cS:=I.cells;have cE:=t.cells;have C0:∀ W,Ext wr W->W.cell? ⟨b0,o0+k*3,gP⟩=gO (.int kA C.fr):=fun W hW=>hW.aa c0;have C1:∀ W,Ext wr W->W.cell? ⟨b0,o0+k*3+1,gP⟩=gO (.int kA C.le):=fun W hW=>hW.aa c1;have C2:∀ W,Ext wr W->W.cell? ⟨b0,o0+k*3+2,gP⟩=gO (.int kA C.ta):=fun W hW=>hW.aa c2;have bI:=dB wr;cases b
       ·go_wp2_with fail
        go_quiet (fail)
        go_wp2_with fail
        go_meet;exact⟨kK,rfl,fun h=>h,(dB _).drewN _⟩
       ·go_wp2_with fail
        go_region_held3 (fun W=>Ext wr W) (first|assumption|(refine Ext.drew ?_;assumption)|(refine Ext.trans ?_ aM;assumption)|(refine Ext.trans ?_ aM;refine Ext.drew ?_;assumption)) ((go_at_call 261;refine (zel (a:=⟨x,l,y⟩) (b:=C)).mono (mQ fun w5 ca=>?_)))
        go_wp2_with fail
        go_meet;exact⟨_,rfl,fun _=>by trivial,aM⟩
      case rest =>
       obtain⟨q,rfl,hq,H⟩:=hcut;replace f:=f.ext H;replace t:=t.ext H;go_upto_if 67 with fail
       go_cut [9] (fun s9 wx=>∃ (b:Bool) (u:kL) (m:List Edg),s9=.bool b/\Acc w wB wx R (w.heap.size+1+1) (M+5) a p u m/\m.length+b.toNat<=k+1/\Hid (Few (p+1) m))
       case first =>
        cases q
        ·go_wp2_with fail
         go_meet;exact⟨b,u,m,rfl,f,o,F⟩
        ·obtain rfl:=hq rfl;have cG:=f.blk.cell;have cE:=t.cell;simp only [Bool.toNat_true] at o;clear hq;go_wp2_with (at_builtin;refine zL wB _ rfl _ _ _ rfl 117 _ 3 24 Tryz.underlying36 zbf rfl dM u m.length (zv m) _ _ rfl rfl f.fr.size f.own rfl (by simp [Value.oneCell']) lM oM ?_;intro g cap w3 zkC hg3 hat3 hlt3;obtain⟨h1,h2,h3⟩:=f.push (e:=⟨x,l,y⟩) zkC hg3 hat3;have a4:=h1.out)
         go_meet;exact⟨kK,_,_,rfl,h3,by simp;omega,zhl F.out an⟩
       case rest =>
        clear f o F I t c0 c1 c2 H hq;obtain⟨b,u,m,rfl,f,o,F⟩:=hcut;obtain⟨wr,aO⟩:∃ wr,wr=wc:=⟨_,rfl⟩;subst aO;have I:=bS.frm f.fr oM;have t:=bE.frm f.fr oM;obtain⟨c0,c1,c2⟩:=(bb.dr f.dr oM).edge2 he.out;go_upto_region 14 with fail
        go_cut [83] (fun s wx=>∃ q:Bool,s=.bool q/\Ext wr wx)
        case first =>
         have cS:=I.cells;have cE:=t.cells;have C0:∀ W,Ext wr W->W.cell? ⟨b0,o0+k*3,gP⟩=gO (.int kA C.fr):=fun W hW=>hW.aa c0;have C1:∀ W,Ext wr W->W.cell? ⟨b0,o0+k*3+1,gP⟩=gO (.int kA C.le):=fun W hW=>hW.aa c1;have C2:∀ W,Ext wr W->W.cell? ⟨b0,o0+k*3+2,gP⟩=gO (.int kA C.ta):=fun W hW=>hW.aa c2;have bI:=dB wr;cases b
         ·go_wp2_with fail
          go_quiet (fail)
          go_wp2_with fail
          go_meet;exact⟨kK,rfl,(dB _).drewN _⟩
         ·go_wp2_with fail
          refine sR (fun X=>Ext wr X) [0,1,2,3,4,5,6,7,8,9] (fun hS=>?_);refine sQ ?_;have HE:=eq_edge (x:Int) (l:Int) (y:Int) C.fr C.le C.ta;refine seq_read (v:=.bool (((x:Int)==C.fr)&&(((l:Int)==C.le)&&((y:Int)==C.ta)))) rfl rfl rfl (fun X hX=>?_) aM ?_
          ·go_simp
          ·clear HE;refine pT ?_;generalize (((x:Int)==C.fr)&&(((l:Int)==C.le)&&((y:Int)==C.ta)))=q;refine sQ ?_;refine zcK ?_;go_wp2_with fail
           go_meet;exact⟨_,rfl,(dB _).drew⟩
        case rest =>
         obtain⟨q,rfl,H⟩:=hcut;replace f:=f.ext H;replace I:=I.ext H;replace c0:=H.aa c0;replace c1:=H.aa c1;replace c2:=H.aa c2;clear t H;go_upto_if 83 with fail
         go_cut [9] (fun s9 wx=>∃ b':Bool,s9=.bool b'/\b'.toNat<=b.toNat/\wc=wx)
         case first =>
          cases q
          ·go_wp2_with fail
           go_meet;exact⟨b,rfl,dD _,rfl⟩
          ·go_wp2_with fail
           go_meet;exact⟨kK,rfl,dH _,rfl⟩
         case rest =>
          obtain⟨b',rfl,b4,bH⟩:=hcut;subst bH
          by_cases hgo:k=Y
          ·have bz:((k:Int) != (Y:Int))=kK:=by simp [hgo]
           have bW:=za hgo;clear hgo;go_wp2_with fail
           go_roundw
           case rel=>exact⟨b',k+1,oM,gM,rfl,u,m,f,oM,F⟩
           case measure=>exact uM
          ·have bz:((k:Int) != (Y:Int))=kC:=by simp;omega
           clear hgo;obtain⟨wr,aO⟩:∃ wr,wr=wc:=⟨_,rfl⟩;subst aO;have cS:=I.cells;have cG:=fun W (hW:Ext wr W)=>(f.blk.ext hW).cell;have C0:∀ W,Ext wr W->W.cell? ⟨b0,o0+k*3,gP⟩=gO (.int kA C.fr):=fun W hW=>hW.aa c0;have C1:∀ W,Ext wr W->W.cell? ⟨b0,o0+k*3+1,gP⟩=gO (.int kA C.le):=fun W hW=>hW.aa c1;have C2:∀ W,Ext wr W->W.cell? ⟨b0,o0+k*3+2,gP⟩=gO (.int kA C.ta):=fun W hW=>hW.aa c2;go_wp2_with fail
           refine tR (fun X=>Ext wr X) [8,10] (Ord.of [0,1,2,3,4,5,6,7,8,9,10]) ?_;refine tQ ?_;refine zK fun K hK=>?_;go_simp;refine hK.out _ _ ((dB _).drew.alloc _) ?_;refine pT ?_;refine zad fun K hK=>?_;refine zaB wB wr.drew _ _ _ rfl 117 _ 3 24 Tryz.underlying36 zbf rfl dM u m.length (zv m) _ _ rfl rfl f.fr.size f.own rfl (by simp [Value.oneCell']) lM oM ?_;intro g cap w3 zkC hg3 hat3 hlt3;refine hK.out _ _ ?_;refine pT ?_;refine tQ ?_;obtain⟨h1,h2,h3⟩:=(f.ext ((dB _).drew)).push (e:=C) (W':=w3) zkC hg3 hat3;have a4:=h1.out;refine zad fun K hK=>?_;go_simp;refine hK.out _ _ ?_;refine zaF ?_;go_wp2_with fail
           go_roundw
           case rel=>exact⟨b',k+1,oM,gM,rfl,_,_,h3,by simp;omega,zhl F.out a8.out⟩
           case measure=>exact uM
     ·obtain rfl:k=n:=oM;go_upto_if 97 with fail
      go_cut [] (fun wx=>∃ (u:kL) (m:List Edg),Acc w wB wx R (w.heap.size+1+1) (M+5) a p u m/\m.length<=k+1/\Hid (Few (p+1) m))
      case first =>
       cases b
       ·go_wp2_with fail
        go_meet;exact⟨u,m,f,by simpa using o,F⟩
       ·have cG:=f.blk.cell;have cE:=t.cell;simp only [Bool.toNat_true] at o;go_wp2_with (at_builtin;refine zL wB _ rfl _ _ _ rfl 117 _ 3 24 Tryz.underlying36 zbf rfl dM u m.length (zv m) _ _ rfl rfl f.fr.size f.own rfl (by simp [Value.oneCell']) lM oM ?_;intro g cap w3 zkC hg3 hat3 hlt3;obtain⟨h1,h2,h3⟩:=f.push (e:=⟨x,l,y⟩) zkC hg3 hat3;have a4:=h1.out)
        go_meet;exact⟨_,_,h3,by simp;omega,zhl F.out an⟩
      case rest =>
       clear f o F cS I t;obtain⟨u,m,f,o,F⟩:=hcut;obtain⟨A',n',c',rfl⟩:=f.form;obtain⟨rfl,_⟩:=f.reads;have bO:=zjU f.own;have cG:=f.blk.cell;have a3:=bZ.frm f.fr oM;have cz:=a3.cell;have ce:=bZ.lt;have fz:=a3.frozen;obtain⟨f1,f2,f3⟩:=f.fin (Z:=w.heap.size+1) oM oM (.int kA a) (.int kA p) (fQ A' m.length c');have aW:=za (show RetA R (M+10) (L+1) w (kP (kO #[a,p,fQ A' m.length c'])) _ from ⟨⟨a,p,m⟩,A',m.length,c',rfl,f1,oM,f2.more oM,f3⟩);clear f1 f2 f3;go_wp2_with fail
       exact bodyPost_ret (v:=kO #[a,p,fQ A' m.length c']) (by simp [results,Tryz.results182,go_sem,cz]) rfl aW.out
theorem ziK (h:Rd w R M)(hM:M<=900000000)(hs:zcB w R A n s)(hf:Fair s)(hn:n<=L)(hL:L<=100000) :
  kQ kN 182 #[kV (gO R),kO #[s.al,s.st,fQ A n c]] w (RetA R (M+10) (L+1) w):=by
 obtain⟨al,st,j⟩:=s;obtain⟨a,p,b,g,d,i,f⟩:=hf;simp only at b d f;subst b;subst d;exact ziJ h hM hs g i f hn hL
def TextsAt (W:kJ) (base g n:Nat):Prop:=
 ∀ k<n,∃ (b:Nat) (l:List ByteArray),W.cell? ⟨g,k,gP⟩=gO (fQ (gO b) 4 4)/\l.length=4/\(∀ x∈l,x.size<=40)/\W.ownsRow base 9 1 (fQ (gO b) 4 4) 4 (zO l)
def RetTLL (w:kJ) (e:Ending) (w':kJ):Prop:=∃ g,e=kP (fQ (gO ⟨g,0,gP⟩) 5 5)/\w.heap.size<=g/\TextsAt w' w.heap.size g 5/\Ext w w'
theorem lit5 (w:kJ){u1 u2 u3 u4 u5:Array kL}
  (h1:zO (u1.toList.map zhf)=u1.toList) (h2:zO (u2.toList.map zhf)=u2.toList) (h3:zO (u3.toList.map zhf)=u3.toList) (h4:zO (u4.toList.map zhf)=u4.toList) (h5:zO (u5.toList.map zhf)=u5.toList)
  (k1:u1.size=4) (k2:u2.size=4) (k3:u3.size=4) (k4:u4.size=4) (k5:u5.size=4)
  (b1:∀ x∈u1.toList.map zhf,x.size<=40) (b2:∀ x∈u2.toList.map zhf,x.size<=40) (b3:∀ x∈u3.toList.map zhf,x.size<=40) (b4:∀ x∈u4.toList.map zhf,x.size<=40) (b5:∀ x∈u5.toList.map zhf,x.size<=40) :
  RetTLL w (kP (fQ (gO ⟨w.heap.size+5,0,gP⟩) 5 5)) ((((((w.alloc (.cells u1 9)).alloc (.cells u2 9)).alloc (.cells u3 9)).alloc (.cells u4 9)).alloc (.cells u5 9)).alloc (.cells #[fQ (gO w.heap.size) 4 4,fQ (gO ⟨w.heap.size+1,0,gP⟩) 4 4,fQ (gO ⟨w.heap.size+2,0,gP⟩) 4 4,fQ (gO ⟨w.heap.size+3,0,gP⟩) 4 4,fQ (gO ⟨w.heap.size+4,0,gP⟩) 4 4] 88)):=by
 have y:=zeQ w h1 k1 oM;have B:=(dB w).alloc (.cells u1 9);have r:(w.alloc (.cells u1 9)).heap.size=w.heap.size+1:=sM;generalize w.alloc (.cells u1 9)=d at *;have n:=zeQ d h2 k2 oM;have v:=(dB d).alloc (.cells u2 9);have s:(d.alloc (.cells u2 9)).heap.size=w.heap.size+2:=by simp [r]
 rw [r] at n;generalize d.alloc (.cells u2 9)=f at *;have o:=zeQ f h3 k3 oM;have m:=(dB f).alloc (.cells u3 9);have t:(f.alloc (.cells u3 9)).heap.size=w.heap.size+3:=by simp [s]
 rw [s] at o;generalize f.alloc (.cells u3 9)=g at *;have p:=zeQ g h4 k4 oM;have i:=(dB g).alloc (.cells u4 9);have u:(g.alloc (.cells u4 9)).heap.size=w.heap.size+4:=by simp [t]
 rw [t] at p;generalize g.alloc (.cells u4 9)=h at *;have q:=zeQ h h5 k5 oM;have c:=(dB h).alloc (.cells u5 9);have z:(h.alloc (.cells u5 9)).heap.size=w.heap.size+5:=by simp [u]
 rw [u] at q;generalize h.alloc (.cells u5 9)=l at *;have a:=eO l 88 #[fQ (gO w.heap.size) 4 4,fQ (gO ⟨w.heap.size+1,0,gP⟩) 4 4,fQ (gO ⟨w.heap.size+2,0,gP⟩) 4 4,fQ (gO ⟨w.heap.size+3,0,gP⟩) 4 4,fQ (gO ⟨w.heap.size+4,0,gP⟩) 4 4];have b:=(dB l).alloc (.cells #[fQ (gO w.heap.size) 4 4,fQ (gO ⟨w.heap.size+1,0,gP⟩) 4 4,fQ (gO ⟨w.heap.size+2,0,gP⟩) 4 4,fQ (gO ⟨w.heap.size+3,0,gP⟩) 4 4,fQ (gO ⟨w.heap.size+4,0,gP⟩) 4 4] 88);rw [z] at a;generalize l.alloc _=C at *;refine⟨_,rfl,oM,fun k hk=>?_,((((B.trans v).trans m).trans i).trans c).trans b⟩;have j:k=0\/k=1\/k=2\/k=3\/k=4:=oM;rcases j with rfl|rfl|rfl|rfl|rfl
 ·exact⟨_,_,a.cell 0,by simp [k1],b1,zh y ((((v.trans m).trans i).trans c).trans b)⟩
 ·exact⟨_,_,a.cell 1,by simp [k2],b2,zn (zh n (((m.trans i).trans c).trans b)) oM⟩
 ·exact⟨_,_,a.cell 2,by simp [k3],b3,zn (zh o ((i.trans c).trans b)) oM⟩
 ·exact⟨_,_,a.cell 3,by simp [k4],b4,zn (zh p (c.trans b)) oM⟩
 ·exact⟨_,_,a.cell 4,by simp [k5],b5,zn (zh q b) oM⟩
theorem zke :kQ kN 204 #[] w (RetTLL w):=by
 go_enter Tryz.func204,Tryz.ntmps204
 go_wp2_with fail
 go_ret;exact lit5 w rfl rfl rfl rfl rfl rfl rfl rfl rfl rfl (by decide +kernel) (by decide +kernel) (by decide +kernel) (by decide +kernel) (by decide +kernel)
def RetL14 (R M:Nat) (w:kJ) (e:Ending) (w':kJ):Prop:=
 ∃ (l:List Ent) (g c:Nat) (b:Aut) (A:Option Addr) (n c1:Nat) (A':Option Addr) (n' c2:Nat),l.length=3/\e=kP (.tuple #[fQ (gO g) 3 c,kO #[b.al,fQ A n c1,fQ A' n' c2]])/\Sld w w' R M (fQ (gO g) 3 c) l/\zM w' (R+1) A n c1 A' n' c2 b/\Hid (BdA 50 b)/\Hid (∀ e∈l,e.n<=40000)
theorem union_le14 (h:zA ss=kC):zE ss<=63:=by
 have c:∀ s∈ss,zk s=kC:=by
  unfold zA at h;simp only [Bool.and_eq_true,List.all_eq_true] at h;exact h.2.2
 have:∀ n,zE (ss.take n)<=63:=by
  intro n
  induction n with
  |zero=>simp [zE]
  |succ n ih =>
   rcases e7 n ss.length with a|a
   ·rw [zcy (dE a)];have:=zI (c _ (List.getElem_mem a));have:=Nat.or_lt_two_pow (n:=6) (x:=zE (ss.take n)) (y:=ss[n].al.toNat) oM oM;omega
   ·rw [dK oM];rw [dK a] at ih;exact ih
 have b:=this ss.length;rwa [List.take_length] at b
theorem partsA_cases (ss:List Sys):(∃ a:Nat,zbl ss=(a:Int)/\a<64)\/zbl ss = -1:=by
 unfold zbl;cases h:zA ss
 ·exact .inr rfl
 ·exact .inl ⟨zE ss,rfl,by have:=union_le14 h;omega⟩
theorem Sld.box {gb:Nat}{l:List Ent}{cs:Array kL}(h:Sld w0 W R M v l)(hB:Blk W gb 38 cs)(hv:∀ b,v.ownBlock=gO b->b≠gb)(hg:w0.heap.size<=gb) (u0 u1 u2:kL) :
  Sld w0 (((W.setCell gb u0).setCell ⟨gb,1,gP⟩ u1).setCell ⟨gb,2,gP⟩ u2) R M v l:=by
 have a:=h.hR;have c:=zdk W gb u0 u1 u2;exact⟨zf h.own c (fun b hb e=>hv b hb e),fun e he=>⟨(h.ent e he).1.far hB dM c,(h.ent e he).2⟩,h.rd.frm c (fun k hk e=>oM),((h.dr.ag (p:=⟨gb,0,gP⟩) hg _).ag (p:=⟨gb,1,gP⟩) hg _).ag (p:=⟨gb,2,gP⟩) hg _,a⟩
theorem fin14 {N K:Nat}{l:List Ent}{cs:Array kL}(hl:l.length=3)(hs:Sld w W R M (fQ (gO g) 3 c) l)(ho:zM W K A n c1 A' n' c2 b)(hK:R+1<=K)(hZK:Z<K)(hb:BdA 50 b)(hle:∀ e∈l,e.n<=40000) (bz:Blk W Z 27 cs)(hc:cs.size=3)(hZ:w.heap.size<=Z)(hM:M<=N) :
  Hid (RetL14 R N w (kP (.tuple #[fQ (gO g) 3 c,kO #[b.al,fQ A n c1,fQ A' n' c2]])) (((W.setCell Z b.al).setCell ⟨Z,1,gP⟩ (fQ A n c1)).setCell ⟨Z,2,gP⟩ (fQ A' n' c2))) /\
  Blk (((W.setCell Z b.al).setCell ⟨Z,1,gP⟩ (fQ A n c1)).setCell ⟨Z,2,gP⟩ (fQ A' n' c2)) Z 27 #[.int kA b.al,fQ A n c1,fQ A' n' c2]:=by
 have d:=hs.hR;have a:=zP W Z (.int kA b.al) (fQ A n c1) (fQ A' n' c2);refine⟨za ⟨l,g,c,b,A,n,c1,A',n',c2,hl,rfl,⟨zf hs.own a (fun k hv e=>zq hs.own bz dM hv e),fun e he=>⟨(hs.ent e he).1.far bz dM a,(hs.ent e he).2⟩,(hs.rd.more hM).frm a (fun k hk e=>oM),?_,d⟩,(ho.keep a (fun k h1 e=>oM)).less hK,za hb,za hle⟩,zab bz hc _ _ _⟩;exact ((hs.dr.ag (p:=⟨Z,0,gP⟩) hZ _).ag (p:=⟨Z,1,gP⟩) hZ _).ag (p:=⟨Z,2,gP⟩) hZ _
theorem spec_l14Draw (h:Rd w R M)(hM:M<=600000000) :
  kQ kN 115 #[kV (gO R)] w (RetL14 R (M+100000) w):=by
 have hRl:=h.lt
 go_enter Tryz.func115,Tryz.ntmps115
 go_wp2_with fail
 generalize U0:w.alloc _=w1 at *;have hxz:=Ext.al_ U0;have bz:=eM U0;have cj:w1.heap.size=w.heap.size+1:=by rw [<- U0];simp
 clear U0;refine (zJ (h.ext hxz) oM).mono ?_;rintro e w2 ⟨z,rfl,-,-,aP,aE⟩;have ar:=hxz.dr.trans aE;have ag:=bz.dr aE oM
 by_cases hz:z=0
 ·subst hz;have bA:=ar.size;go_wp2_with fail
  refine (zke).mono ?_;rintro e w3 ⟨g,rfl,hg,hT,V⟩;have br:=ar.ext V;have a1:=ag.ext V;have b7:=V.size;have co:=ag.lt;go_wp2_with fail
  refine (zJ (aP.ext V) oM).mono ?_;rintro e w4 ⟨j,rfl,hj,-,ap,y⟩;have bc:j<5:=by have:=hj oM;omega
  have bu:=br.trans y;have bz4:=a1.dr y oM;obtain⟨bt,lt,aD,b9,U,aK⟩:=hT j bc;have a5:=y.aa aD (by dsimp only;omega);have aL:=zaN aK y (fun b I e=>oM);have bN:(j:Int)<5:=oM;have ab:=Sld.nil (w0:=w) ap bu hRl;have au:=(dB w4).alloc (.cells #[] 38);have Y:=zh aL au;have bz5:=bz4.ext au;clear hj hT aD aK;go_upto_region 5 with fail
  generalize hg4:w4.heap.size=g4 at *;generalize w4.alloc _=w5 at *;go_wp2_with fail
  go_loopw [6,7] (fun v i wr=>∃ (k:Nat) (vl:kL) (l:List Ent),k<=3/\vl=v/\i=.int kA k/\Hid (l.length=k)/\Hid (∀ e∈l,e.n<=40000)/\Sld w wr R (M+2+20*k) vl l/\Blk wr w.heap.size 27 #[(0:Int),(),()]/\wr.ownsRow w2.heap.size 9 1 (fQ (gO bt) 4 4) 4 (zO lt)) (fun _ i _=>3 - (intOf i).toNat)
  case atStart=>exact⟨0,_,[],dH _,rfl,rfl,rfl,za (fun _ h=>by simp at h),ab.more oM,bz5,Y⟩
  case round =>
   clear ab bz5 Y au a5;obtain⟨k,vl,l,hk,rfl,rfl,T,ao,f,m,d⟩:=hrel
   by_cases hlt:k<3
   ·obtain⟨ad,x,e1,_,_,hx,cx⟩:=(eQ d).str (show k<4 by omega);obtain rfl:=kS e1;have bx:=U x (dC hx.out);rw [zZ,eK] at cx;have bB:=m.lt;go_wp2_with fail
    refine (zhb f.rd oM).mono ?_;rintro e J ⟨s,A1,n1,c1,ok,rfl,bm,⟨-,a9⟩,be,aO,E⟩;have p:=(dB J).alloc (.cells #[s.al,s.st,fQ A1 n1 c1] 38);have bs:=eO J 38 #[s.al,s.st,fQ A1 n1 c1];have o:=(f.drawn E aO).ext p;have r:=(m.dr E oM).ext p;have Z:=zh (zaN d E (fun b I e=>oM)) p;have aQ:=bm.ext p;have cn:=r.lt;have bq:∀ b,vl.ownBlock=gO b->b≠J.heap.size:=fun b hb=>by have:=(f.own.lt b hb).2;have:=E.size;omega
    have b8:=(f.drawn E aO).dr.size;have bL:=E.size;go_upto_region 9 with fail
    generalize hgb:J.heap.size=gb at *;generalize J.alloc _=wb at *;go_wp2_with fail
    refine (zJ o.rd oM).mono ?_;rintro e wc ⟨q,rfl,-,-,bk,F⟩;have C:=o.drawn F bk;have L:=bs.dr F oM;have ai:=r.dr F oM;have G:=zaN Z F (fun b I e=>oM);have aq:=aQ.dr F;clear bs r Z aQ o d m cx p;go_upto_if 39 with fail
    go_cut [] (fun wx=>∃ O:Ent,Blk wx gb 38 #[O.s.al,O.s.st,fQ O.A O.n O.c]/\O.ok wx R/\O.n<=40000/\Sld w wx R (M+2+20*k+15) vl l/\Blk wx w.heap.size 27 #[(0:Int),(),()]/\wx.ownsRow w2.heap.size 9 1 (fQ (gO bt) 4 4) 4 (zO lt))
    case first =>
     by_cases hq:q=0
     ·subst hq;have cs:=L.cell;go_wp2_with fail
      refine (ziK C.rd oM aq a9 be.1 oM).mono ?_;rintro e wd ⟨s2,A2,n2,c2,rfl,bn,ca,bl,S⟩;have D:=L.dr S oM;have bX:=D.cell;have b3:=D.frozen;have aT:=(C.drawn S bl).box D bq oM (.int kA s2.al) (.int kA s2.st) (fQ A2 n2 c2);have an:=zdk wd gb (.int kA s2.al) (.int kA s2.st) (fQ A2 n2 c2);have aa:=zaN G S (fun b I e=>oM);go_wp2_with fail
      go_meet;exact⟨⟨s2,A2,n2,c2⟩,blk_fill D rfl _ _ _,⟨bn.far D dM an,by dsimp only;omega,by dsimp only;omega⟩,by dsimp only;omega,aT.more oM,(ai.dr S oM).frm an oM,zf aa an (fun b hb e=>zq aa D dM hb e)⟩
     ·have ce:((q:Int)==0)=kK:=by simp;omega
      go_wp2_with fail
      go_meet;exact⟨⟨s,A1,n1,c1⟩,L,⟨aq,by dsimp only;omega,by dsimp only;omega⟩,by dsimp only;omega,C.more oM,ai,G⟩
    case rest =>
     clear C L ai G aq;obtain⟨O,a0,a8,aI,B,m,d⟩:=hcut;have bY:=a0.cell;have aJ:=T.out;go_wp2_with (at_builtin;refine zeS w _ rfl _ _ _ rfl 38 _ 3 40 Tryz.underlying23 info_sys rfl dM vl l.length (zgx l) _ _ rfl rfl B.dr.size B.own rfl (by simp [Value.oneCell']) lM oM ?_;intro g5 cap5 w5' zkD hg5 hat5 hlt5)
     have aN:=B.push a8 zkD hg5;rw [aJ] at aN;go_roundw
     case rel=>exact⟨k+1,_,l++[O],oM,rfl,gM,by unfold Hid;rw [eA,aJ];rfl,za (fun e he=>by rcases kY.1 he with I|I;exact ao.out e I;rw [fB] at I;subst I;exact aI),aN.more (show M+2+20*k+15<=M+2+20*(k+1) by omega),(hg5.block _ m.lt (fun e=>zq B.own m dM e.symm rfl)).trans m,zf d (fF hg5) (fun b hb hS=>zan d B.own dM hb hS)⟩
     case measure=>exact uM
   ·have bd:k=3:=oM;subst bd;obtain⟨g,cg,rfl⟩:∃ g cg,vl=fQ (gO ⟨g,0,gP⟩) 3 cg:=by
     have ho:=f.own.2;rw [T.out] at ho;rcases ho with ⟨_,h0⟩|⟨g,a3,bZ,I,_⟩
     ·omega
     ·exact⟨g,a3,I⟩
    obtain⟨ad,x,e1,_,_,hx,cx⟩:=(eQ d).str (show 3<4 by omega);obtain rfl:=kS e1;have bx:=U x (dC hx.out);rw [zZ,eK] at cx;have bB:=m.lt;go_wp2_with fail
    refine (zfH f.rd oM).mono ?_;rintro e J ⟨b,A1,n1,c1,A2,n2,c2,ok,rfl,aA,aC,bj,aH⟩;have ci:=f.dr.size;have p:=(dB J).alloc (.cells #[b.al,fQ A1 n1 c1,fQ A2 n2 c2] 27);have bb:=eO J 27 #[b.al,fQ A1 n1 c1,fQ A2 n2 c2];have o:=(f.drawn aH bj).ext p;have r:=(m.dr aH oM).ext p;have aB:=aA.ext p;clear aA d m cx;go_upto_region 13 with fail
    generalize hgb:J.heap.size=gb at *;generalize J.alloc _=wb at *;have cB:=bb.cells;have cz:=r.cell;have fz:=r.frozen;have am:Ext wb wb.drew:=(dB _).drew;obtain⟨-,f2⟩:=fin14 (N:=M+100000) T.out o aB oM oM (BdL.more aC.out oM) ao.out r rfl (dD _) oM;obtain⟨f1,-⟩:=fin14 (N:=M+100000) T.out (o.ext am) (aB.ext am) oM oM (BdL.more aC.out oM) ao.out (r.ext am) rfl (dD _) oM;go_wp2_with fail
    refine tR (fun X=>Ext wb X) [3] (Ord.of [0,1,2,3]) ?_;refine tQ ?_;refine zad fun K hK=>?_;go_simp;refine hK.out _ _ ?_;refine zaF ?_;go_wp2_with fail
    have cf:=f2.cell;exact bodyPost_ret (v:=.tuple #[fQ (gO g) 3 cg,kO #[b.al,fQ A1 n1 c1,fQ A2 n2 c2]]) (by simp [results,Tryz.results115,go_sem,cf]) rfl f1.out
 ·have ck:((z:Int)==0)=kK:=by simp;omega
  go_wp2_with fail
  refine (zdy aP oM).mono ?_;rintro e w3 ⟨s,A3,n3,c3,rfl,bo,-,cb,bg,aF⟩;go_wp2_with fail
  refine (zdy bg oM).mono ?_;rintro e w4 ⟨t,A4,n4,c4,rfl,U,-,cc,ap,y⟩;go_wp2_with fail
  refine (zdy ap oM).mono ?_;rintro e w5 ⟨u,A5,n5,c5,rfl,bp,-,cd,bh,Q⟩;have aU:=((ar.trans aF).trans y).trans Q;have bz5:=((ag.dr aF oM).dr y oM).dr Q oM;have f:=Sld.three (w0:=w) (a:=⟨s,A3,n3,c3⟩) (b:=⟨t,A4,n4,c4⟩) (c:=⟨u,A5,n5,c5⟩) bh aU hRl ⟨(bo.dr y).dr Q,by dsimp only;omega,by dsimp only;omega⟩ ⟨U.dr Q,by dsimp only;omega,by dsimp only;omega⟩ ⟨bp,by dsimp only;omega,by dsimp only;omega⟩;dsimp only at f;have bw:=(dB w5).alloc (.cells #[s.al,s.st,fQ A3 n3 c3,t.al,t.st,fQ A4 n4 c4,u.al,u.st,fQ A5 n5 c5] 38);have a2:=bz5.ext bw;have cl:=bz5.lt;generalize hg6:w5.heap.size=g6 at *;go_upto_region 15 with fail
  generalize w5.alloc _=w6 at *;have hA:=partsA_cases [s,t,u];have aR:=f.sl rfl;have bA:=aU.size;go_wp2_with (first
   |(go_at_call 206;refine (zaE aR).mono (mQ fun w7 aV=>?_);have H:=f.ext aV;have ay:=a2.ext aV;have cm:=ay.lt;have ch:=H.dr.size)
   |(go_at_call 205;refine (zhe H.rd oM hA).mono ?_;rintro e w8 ⟨b,A8,n8,d8,A9,n9,d9,rfl,bf,ba,bi,aG⟩;have ah:=ay.dr aG oM;have b0:=ah.cell;have b4:=ah.frozen;have aS:=H.drawn aG bi))
  obtain⟨f1,f2⟩:=fin14 (N:=M+100000) rfl aS bf oM oM ((BdA.of ba.out).more oM) (fun e he=>by simp only [List.mem_cons,List.not_mem_nil,or_false] at he;rcases he with rfl|rfl|rfl<;>(dsimp only;omega)) ah rfl (dD _) oM
  have cf:=f2.cell;exact bodyPost_ret (v:=.tuple #[fQ (gO g6) 3 3,kO #[b.al,fQ A8 n8 d8,fQ A9 n9 d9]]) (by simp [results,Tryz.results115,go_sem,cf]) rfl f1.out
theorem entC_take (l:List Ent) (k:Nat):zgx (l.take k)=(zgx l).take (k*3):=by
 induction l generalizing k with
 |nil=>simp [zgx]
 |cons e r ih =>
  cases k with
  |zero=>simp [zgx]
  |succ k =>
   show e.cs++zgx (r.take k)=(e.cs++zgx r).take ((k+1)*3);rw [ih,List.take_append,show e.cs.length=3 by rfl,show (k+1)*3 - 3=k*3 by omega,dK (show e.cs.length<=(k+1)*3 by rw [show e.cs.length=3 by rfl];omega)]
section
variable {w0 W:kJ}{R M g n c:Nat}{l:List Ent}
theorem Sld.take (h:Sld w0 W R M (fQ (gO g) n c) l)(hn:n=l.length)(hk:k<=n):Sld w0 W R M (fQ (gO g) k c) (l.take k):=by
 subst hn;have p:(l.take k).length=k:=by rw [e9];omega
 refine⟨?_,fun e he=>h.ent e (List.mem_of_mem_take he),h.rd,h.dr,h.hR⟩;have q:=h.own;rw [p,entC_take];refine⟨by rw [e9,entC_length];omega,.inr ?_⟩;rcases q.2 with ⟨a,_⟩|⟨r,d,b,a,f,i,s,j,m,o⟩
 ·simp at a
 ·injection a with a h8 h9
  injection a with a
  injection a with a
  subst a;subst h9;refine⟨g,c,b,rfl,f,i,oM,j,m,?_⟩;rw [<- o,List.take_take,Nat.min_eq_left oM]
theorem Sld.cap (h:Sld w0 W R M (fQ (gO g) n c) l)(hn:n=l.length):n<=c:=by
 subst hn;rcases h.own.2 with ⟨a,_⟩|⟨d,cap,b,a,f,i,j,_⟩
 ·simp at a
 ·injection a with a h8 h9
  omega
theorem Sld.set1 {e:Ent}(h:Sld w0 W R M (fQ (gO g) n c) l)(hn:n=l.length)(h2:2<=n)(he:e.ok W R) :
  Sld w0 (((W.setCell ⟨g,3,gP⟩ e.s.al).setCell ⟨g,4,gP⟩ e.s.st).setCell ⟨g,5,gP⟩ (fQ e.A e.n e.c)) R M (fQ (gO g) n c) (l.set 1 e):=by
 subst hn;have j:=(h.own.lt g rfl).1;have f:=h.hR;have m:Frm (fun k=>k=g) W (((W.setCell ⟨g,3,gP⟩ e.s.al).setCell ⟨g,4,gP⟩ e.s.st).setCell ⟨g,5,gP⟩ (fQ e.A e.n e.c)):=
  ((dG W g 3 _).trans (dG _ g 4 _)).trans (dG _ g 5 _)
 have d:∀ x:Ent,x.ok W R->x.ok (((W.setCell ⟨g,3,gP⟩ e.s.al).setCell ⟨g,4,gP⟩ e.s.st).setCell ⟨g,5,gP⟩ (fQ e.A e.n e.c)) R:=fun x hx =>
  ⟨hx.1.frm m (fun k hk _=>by subst hk;exact own_sys h.own rfl),hx.2⟩
 refine⟨?_,fun x hx=>?_,h.rd.frm m (fun k hk e=>oM),((h.dr.ag (p:=⟨g,3,gP⟩) j _).ag (p:=⟨g,4,gP⟩) j _).ag (p:=⟨g,5,gP⟩) j _,f⟩
 ·have o:=(((h.own.stored 3 (.int kA e.s.al)).1.stored 4 (.int kA e.s.st)).1.stored 5 (fQ e.A e.n e.c)).1;rw [fT];have i:(((zgx l).set 3 (.int kA e.s.al)).set 4 (.int kA e.s.st)).set 5 (fQ e.A e.n e.c)=zgx (l.set 1 e):=by
   match l,h2 with
   |a :: b :: r,_=>rfl
  rw [<- i];exact o
 ·rcases List.mem_or_eq_of_mem_set hx with hx|hx
  ·exact d x (h.ent x hx)
  ·subst hx;exact d _ he
theorem Sld.at_ {e:Ent}(h:Sld w0 W R M (fQ (gO g) n c) l)(hn:n=l.length)(he:l[i]?=gO e) :
  W.cell? ⟨g,i*3,gP⟩=gO (.int kA e.s.al)/\W.cell? ⟨g,i*3+1,gP⟩=gO (.int kA e.s.st)/\W.cell? ⟨g,i*3+2,gP⟩=gO (fQ e.A e.n e.c):=by
 subst hn;have f:=(kT.1 he).1;obtain⟨a,b,d⟩:=zhk he;exact⟨(h.own.cellAt (i*3) oM).trans a,(h.own.cellAt (i*3+1) oM).trans b,(h.own.cellAt (i*3+2) oM).trans d⟩
end
def RetL14A (R M:Nat) (w:kJ) (e:Ending) (w':kJ):Prop:=
 ∃ (l:List Ent) (k g c:Nat) (b:Aut) (A:Option Addr) (n c1:Nat) (A':Option Addr) (n' c2:Nat),Hid (k=l.length)/\k<=4/\e=kP (.tuple #[fQ (gO g) k c,kO #[b.al,fQ A n c1,fQ A' n' c2]])/\Sld w w' R M (fQ (gO g) k c) l/\zM w' (R+1) A n c1 A' n' c2 b/\Hid (BdA 100 b)
structure L14S (w0 W:kJ) (R G M g k c:Nat) (l:List Ent) (b:Aut) (A:Option Addr) (n c1:Nat) (A':Option Addr) (n' c2:Nat):Prop where
 sld:Sld w0 W R M (fQ (gO g) k c) l
 len:Hid (k=l.length)
 blk:Blk W (G) 27 #[b.al,fQ A n c1,fQ A' n' c2]
 own:zM W (R+1) A n c1 A' n' c2 b
 bd:Hid (BdA 100 b)
 z:Blk W w0.heap.size 27 #[(0:Int),(),()]
 hG:w0.heap.size<G
section
variable {w0 W W':kJ}{R G M N g k c:Nat}{l:List Ent}{b:Aut}{A:Option Addr}{n c1:Nat}{A':Option Addr}{n' c2:Nat}
theorem L14S.drawn (h:L14S w0 W R G M g k c l b A n c1 A' n' c2)(hd:Dr R W W')(hr:Rd W' R N):L14S w0 W' R G N g k c l b A n c1 A' n' c2:=
 have hR:=h.sld.hR
 ⟨h.sld.drawn hd hr,h.len,h.blk.dr hd (oH h.hG),h.own.keep hd (fun b h1 e=>oM),h.bd,h.z.dr hd oM,h.hG⟩
theorem L14S.more (h:L14S w0 W R G M g k c l b A n c1 A' n' c2)(hM:M<=N):L14S w0 W R G N g k c l b A n c1 A' n' c2:={ h with sld:=h.sld.more hM }
theorem L14S.far (h:L14S w0 W R G M g k c l b A n c1 A' n' c2):g≠w0.heap.size/\g≠G:=⟨zq h.sld.own h.z dM rfl,zq h.sld.own h.blk dM rfl⟩
theorem L14S.setP {b1:Aut}{A1:Option Addr}{n1 d1:Nat}{A2:Option Addr}{n2 d2:Nat}(h:L14S w0 W R G M g k c l b A n c1 A' n' c2)(ho:zM W (R+1) A1 n1 d1 A2 n2 d2 b1)(hb:BdA 100 b1) :
  L14S w0 (((W.setCell G b1.al).setCell ⟨G,1,gP⟩ (fQ A1 n1 d1)).setCell ⟨G,2,gP⟩ (fQ A2 n2 d2)) R G M g k c l b1 A1 n1 d1 A2 n2 d2:=by
 have f:=h.sld.hR;have d:=h.hG;have a:=zP W (G) (.int kA b1.al) (fQ A1 n1 d1) (fQ A2 n2 d2);refine⟨⟨zf h.sld.own a (fun k hv e=>zq h.sld.own h.blk dM hv e),fun e he=>⟨(h.sld.ent e he).1.far h.blk dM a,(h.sld.ent e he).2⟩,h.sld.rd.frm a (fun k hk e=>oM),?_,f⟩,h.len,zab h.blk rfl _ _ _,ho.aq h.blk a dM,za hb,h.z.frm a oM,d⟩;exact ((h.sld.dr.ag (p:=⟨G,0,gP⟩) (kH h.hG) _).ag (p:=⟨G,1,gP⟩) (kH h.hG) _).ag (p:=⟨G,2,gP⟩) (kH h.hG) _
theorem L14S.set1 {e:Ent}(h:L14S w0 W R G M g k c l b A n c1 A' n' c2)(h2:2<=k)(he:e.ok W R) :
  L14S w0 (((W.setCell ⟨g,3,gP⟩ e.s.al).setCell ⟨g,4,gP⟩ e.s.st).setCell ⟨g,5,gP⟩ (fQ e.A e.n e.c)) R G M g k c (l.set 1 e) b A n c1 A' n' c2:=by
 obtain⟨f1,f2⟩:=h.far;have a:Frm (fun k'=>(fQ (gO g) k c).ownBlock=gO k') W (((W.setCell ⟨g,3,gP⟩ e.s.al).setCell ⟨g,4,gP⟩ e.s.st).setCell ⟨g,5,gP⟩ (fQ e.A e.n e.c)):=
  (((dG W g 3 _).trans (dG _ g 4 _)).trans (dG _ g 5 _)).mono (fun k _ hk=>by subst hk;rfl)
 refine⟨h.sld.set1 h.len.out h2 he,za (by rw [fT];exact h.len.out),h.blk.frm a (fun e=>by simp [Value.ownBlock] at e;exact f2 e),h.own.farR h.sld.own a dM,h.bd,h.z.frm a (fun e=>by simp [Value.ownBlock] at e;exact f1 e),h.hG⟩
theorem L14S.fin (h:L14S w0 W R G M g k c l b A n c1 A' n' c2)(hk:k<=4)(hM:M<=N) :
  Hid (RetL14A R N w0 (kP (.tuple #[fQ (gO g) k c,kO #[b.al,fQ A n c1,fQ A' n' c2]])) (((W.setCell w0.heap.size b.al).setCell ⟨w0.heap.size,1,gP⟩ (fQ A n c1)).setCell ⟨w0.heap.size,2,gP⟩ (fQ A' n' c2))) /\
  Blk (((W.setCell w0.heap.size b.al).setCell ⟨w0.heap.size,1,gP⟩ (fQ A n c1)).setCell ⟨w0.heap.size,2,gP⟩ (fQ A' n' c2)) w0.heap.size 27 #[.int kA b.al,fQ A n c1,fQ A' n' c2]:=by
 have d:=h.sld.hR;have f:=h.hG;have a:=zP W w0.heap.size (.int kA b.al) (fQ A n c1) (fQ A' n' c2);refine⟨za ⟨l,k,g,c,b,A,n,c1,A',n',c2,h.len,hk,rfl,⟨zf h.sld.own a (fun k hv e=>zq h.sld.own h.z dM hv e),fun e he=>⟨(h.sld.ent e he).1.far h.z dM a,(h.sld.ent e he).2⟩,(h.sld.rd.more hM).frm a (fun k hk e=>oM),?_,d⟩,h.own.aq h.z a dM,h.bd⟩,zab h.z rfl _ _ _⟩;exact ((h.sld.dr.ag (p:=⟨w0.heap.size,0,gP⟩) (dD _) _).ag (p:=⟨w0.heap.size,1,gP⟩) (dD _) _).ag (p:=⟨w0.heap.size,2,gP⟩) (dD _) _
end
theorem spec_l14Any (h:Rd w R M)(hM:M<=500000000) :
  kQ kN 47 #[kV (gO R)] w (RetL14A R (M+200000) w):=by
 have hRl:=h.lt
 go_enter Tryz.func47,Tryz.ntmps47
 go_wp2_with fail
 generalize U0:w.alloc _=w1 at *;have hxz:=Ext.al_ U0;have bz:=eM U0;have aY:w1.heap.size=w.heap.size+1:=by rw [<- U0];simp
 clear U0;refine (spec_l14Draw (h.ext hxz) oM).mono ?_;rintro e w2 ⟨l,g,c,b,A,n,i,A',n',j,t,rfl,f,u,m,ab⟩;have C:=(dB w2).alloc (.cells #[b.al,fQ A n i,fQ A' n' j] 27);have bb:=eO w2 27 #[b.al,fQ A n i,fQ A' n' j];have B:=(f.less hxz.dr hRl).ext C;have aZ:=f.dr.size;have a:=(⟨B,za t.symm,bb,u.ext C,za (BdL.more m.out oM),(bz.dr f.dr oM).ext C,oM⟩:L14S w _ R w2.heap.size (M+100000) g 3 c l b A n i A' n' j);have D:=m;clear B f bb u m C bz hxz;go_upto_region 2 with fail
 generalize hG:w2.heap.size=G at *;generalize w2.alloc _=w3 at *;go_wp2_with fail
 refine (zJ a.sld.rd oM).mono ?_;rintro e w4 ⟨y,rfl,-,-,ae,Z⟩;replace a:=a.drawn Z ae;go_upto_block 0 with fail
 go_cut [4] (fun v wx=>∃ (l:List Ent) (k g c:Nat) (b:Aut) (A:Option Addr) (n i:Nat) (A':Option Addr) (n' j:Nat),v=fQ (gO g) k c/\k<=4/\L14S w wx R G (M+150000) g k c l b A n i A' n' j)
 case first =>
  by_cases hy0:y=0
  ·subst hy0;go_wp2_with fail
   refine (zJ a.sld.rd oM).mono ?_;rintro e w5 ⟨q,rfl,hq,-,S,I⟩;have aW:q<3:=by have:=hq oM;omega
   replace a:=a.drawn I S;have aX:q<=c:=by have:=a.sld.cap t.symm;omega
   go_wp2_with fail
   go_meet;exact⟨l.take q,q,g,c,b,A,n,i,A',n',j,rfl,oM,⟨(a.sld.take a.len.out oM).more oM,za (by rw [e9,t];omega),a.blk,a.own,a.bd,a.z,a.hG⟩⟩
  by_cases hy1:y=1
  ·subst hy1;go_wp2_with fail
   refine (zdy a.sld.rd oM).mono ?_;rintro e w5 ⟨s,A5,n5,c5,rfl,ap,-,aU,S,I⟩;replace a:=a.drawn I S;have an:(⟨s,A5,n5,c5⟩:Ent).ok w5 R:=⟨ap,by dsimp only;omega,by dsimp only;omega⟩;go_wp2_with (at_builtin;refine zeS w _ rfl _ _ _ rfl 38 _ 3 40 Tryz.underlying23 info_sys rfl dM (fQ (gO g) 3 c) l.length (zgx l) _ _ rfl rfl a.sld.dr.size a.sld.own rfl (by simp [Value.oneCell']) lM oM ?_;intro g5 cap5 w6 zkD hg5 hat5 hlt5)
   have ad:=a.sld.push an zkD hg5;rw [t] at ad;obtain⟨f1,f2⟩:=a.far;go_meet;exact⟨l++[⟨s,A5,n5,c5⟩],4,g5,cap5,b,A,n,i,A',n',j,rfl,oM,⟨ad.more oM,za (by simp [t]),(hg5.block _ a.blk.lt (fun e=>f2 (by simpa [Value.ownBlock] using e.symm))).trans a.blk,a.own.farR a.sld.own (fF hg5) dM,a.bd,(hg5.block _ a.z.lt (fun e=>f1 (by simpa [Value.ownBlock] using e.symm))).trans a.z,a.hG⟩⟩
  by_cases hy2:y=2
  ·subst hy2;obtain⟨p,r⟩:∃ p,l[1]?=gO p:=⟨l[1]' oM,dE _⟩;obtain⟨c0,U,V⟩:=a.sld.at_ t.symm r;have d:p.ok w4 R/\p.n<=40000:=⟨a.sld.ent p (dC r),ab.out p (dC r)⟩;go_wp2_with fail
   refine (zeO (L:=p.n) a.sld.rd oM d.1.1 (dD _) (oH d.2)).mono ?_;rintro e v1 ⟨s1,A1,n1,d1,rfl,ao,aR,J,E⟩;replace a:=a.drawn E J;clear c0 U V r;have o:=za d;clear d;go_wp2_with fail
   refine (zeO (L:=n1) a.sld.rd oM ao (dD _) (oH o.out.2)).mono ?_;rintro e v2 ⟨s2,A2,n2,d2,rfl,f,aS,O,F⟩;replace a:=a.drawn F O;go_wp2_with fail
   refine (zeO (L:=n2) a.sld.rd oM f (dD _) (oH o.out.2)).mono ?_;rintro e v3 ⟨s3,A3,n3,d3,rfl,B,aT,Q,H⟩;replace a:=a.drawn H Q;have aA:n3<=50000:=oH o.out.2;obtain⟨aN,aa⟩:∃ p,l[1]?=gO p:=⟨l[1]' oM,dE _⟩;obtain⟨c0,U,V⟩:=a.sld.at_ t.symm aa;have x:=a.sld.own;rw [t] at x;have f3:=x.frozenAt;have fin:=a.set1 (e:=⟨s3,A3,n3,d3⟩) oM ⟨B,by dsimp only;omega,by dsimp only;omega⟩;go_wp2_with fail
   go_meet;exact⟨l.set 1 ⟨s3,A3,n3,d3⟩,3,g,c,b,A,n,i,A',n',j,rfl,oM,fin.more oM⟩
  by_cases hy3:y=3
  ·subst hy3;have cG:=a.blk.cell;go_wp2_with fail
   refine (zeP a.sld.rd oM a.own D.out oM).mono ?_;rintro e w5 ⟨b1,A1,n1,d1,B1,m1,e1,rfl,am,aj,J,E⟩;have aO:=a.sld.dr.size;replace a:=a.drawn E J;have aP:=a.sld.dr.size;clear cG;go_wp2_with fail
   refine (zeP a.sld.rd oM (am.less oM) aj.out oM).mono ?_;rintro e w6 ⟨b2,A2,n2,d2,B2,m2,e2,rfl,u,m,O,F⟩;replace a:=a.drawn F O;go_wp2_with fail
   refine (zeP a.sld.rd oM (u.less oM) m.out oM).mono ?_;rintro e w7 ⟨b3,A3,n3,d3,B3,m3,e3,rfl,x,ak,Q,H⟩;have aQ:=a.sld.dr.size;replace a:=a.drawn H Q;have cG:=a.blk.cell;have fG:=a.blk.frozen;have fin:=a.setP (x.less oM) (BdL.more ak.out oM);go_wp2_with fail
   go_meet;exact⟨l,3,g,c,b3,A3,n3,d3,B3,m3,e3,rfl,oM,fin.more oM⟩
  have h0:((y:Int)==0)=kK:=by simp;omega
  have h1:((y:Int)==1)=kK:=by simp;omega
  have h2:((y:Int)==2)=kK:=by simp;omega
  have h3:((y:Int)==3)=kK:=by simp;omega
  clear hy0 hy1 hy2 hy3;go_wp2_with fail
  go_meet;exact⟨l,3,g,c,b,A,n,i,A',n',j,rfl,oM,a.more oM⟩
 case rest =>
  clear a t ab D ae Z;obtain⟨l,k,g,c,b,A,n,i,A',n',j,rfl,hk,a⟩:=hcut;obtain⟨T,aq⟩:∃ T,T=wc:=⟨_,rfl⟩;subst aq;have cB:=fun W (hW:Ext T W)=>(a.blk.ext hW).cell;have cz:=a.z.cell;have fz:=a.z.frozen;have Y:Ext T T.drew:=(dB _).drew;obtain⟨-,f2⟩:=a.fin hk (show M+150000<=M+200000 by omega);obtain⟨f1,-⟩:=(a.drawn Y.dr (a.sld.rd.ext Y)).fin hk (show M+150000<=M+200000 by omega);go_wp2_with fail
  refine tR (fun X=>Ext T X) [3] (Ord.of [0,1,2,3]) ?_;refine tQ ?_;refine zad fun K hK=>?_;go_simp;refine hK.out _ _ ?_;refine zaF ?_;go_wp2_with fail
  have cf:=f2.cell;exact bodyPost_ret (v:=.tuple #[fQ (gO g) k c,kO #[b.al,fQ A n i,fQ A' n' j]]) (by simp [results,Tryz.results47,go_sem,cf]) rfl f1.out
def RetDC (w:kJ) (e:Ending) (w':kJ):Prop:=
 ∃ (ss:List Sys) (k g c:Nat) (b:Aut) (A:Option Addr) (n c1:Nat) (A':Option Addr) (n' c2:Nat),Hid (k=ss.length)/\k<=4/\k<=c/\e=kP (.tuple #[fQ (gO g) k c,kO #[b.al,fQ A n c1,fQ A' n' c2]])/\zeo w' w.heap.size w'.heap.size (gO ⟨g,0,gP⟩) k ss/\zF w' w.heap.size w'.heap.size A n A' n' b/\Hid (BdA 100 b)/\Ext w w'
theorem zM.at_new {a:Aut}(h:zM w base A n c A' n' c' a)(hl:lo<=base):zF w lo w.heap.size A n A' n' a:=(h.less hl).reads
theorem sl_of {l:List Ent}(ho:W.ownsRow base 38 3 (fQ A n c) n (zgx l))(hn:n=l.length)(he:∀ e∈l,e.ok W R)(hb:lo<=base)(hR:lo<=R+1):zeo W lo W.heap.size A n (l.map Ent.s):=by
 have g:=eQ ho;refine⟨by simpa using hn,zgx l,g.more hb (dD _),fun k s hs=>?_⟩;rw [eC,fW] at hs;obtain⟨e,a,rfl⟩:=hs;obtain⟨b,d,f⟩:=zhk a;exact⟨e.A,e.n,e.c,b,d,f,(he e (dC a)).1.at_.more hR (dD _)⟩
theorem draw_cl {l:List Ent}{cs:Array kL}(hl:k=l.length)(hk:k<=4)(hs:Sld w1 W R M (fQ (gO g) k c) l)(ho:zM W (R+1) A n c1 A' n' c2 b)(hb:BdA 100 b)(hR:w.heap.size<R)(hx:Ext w w1)(hz:Blk W w.heap.size 27 cs)(hc:cs.size=3) :
  RetDC w (kP (.tuple #[fQ (gO g) k c,kO #[b.al,fQ A n c1,fQ A' n' c2]])) (((W.setCell w.heap.size b.al).setCell ⟨w.heap.size,1,gP⟩ (fQ A n c1)).setCell ⟨w.heap.size,2,gP⟩ (fQ A' n' c2)) /\
  Blk (((W.setCell w.heap.size b.al).setCell ⟨w.heap.size,1,gP⟩ (fQ A n c1)).setCell ⟨w.heap.size,2,gP⟩ (fQ A' n' c2)) w.heap.size 27 #[.int kA b.al,fQ A n c1,fQ A' n' c2]:=by
 have a:=zP W w.heap.size (.int kA b.al) (fQ A n c1) (fQ A' n' c2);have d:Ext w W:=Dr.new hx oM hs.dr;have f:=hs.hR;refine⟨⟨l.map Ent.s,k,g,c,b,A,n,c1,A',n',c2,za (by rw [List.length_map];exact hl),hk,hs.cap hl,rfl,?_,?_,za hb,((d.setCell (p:=⟨w.heap.size,0,gP⟩) (dD _) _).setCell (p:=⟨w.heap.size,1,gP⟩) (dD _) _).setCell (p:=⟨w.heap.size,2,gP⟩) (dD _) _⟩,zab hz hc _ _ _⟩
 ·refine sl_of (base:=w1.heap.size) (c:=c) ?_ hl (fun e he=>(⟨(hs.ent e he).1.far hz dM a,(hs.ent e he).2⟩:e.ok _ R)) oM oM;have ho:=hs.own;rw [<- hl] at ho;exact zaN ho a (fun b h1 e=>oM)
 ·exact (ho.keep a (fun b h1 e=>oM)).at_new oM
theorem vcT_none {p:Aut}(h:three ss p=kK):vcT ss p=⟨3,noA,noA,⟨#[]⟩,0⟩:=by
 unfold vcT;split
 ·rename_i x y z;have:zaw [x,y,z] p = -1:=by unfold zaw;rw [h];rfl
  rw [this];rfl
 ·rfl
theorem spec_VerifyChainA {lo1 hi1 m d m' d':Nat}{B B':Option Addr}{p:Aut}(h:zeo w lo hi A n ss)(hp:zF w lo1 hi1 B m B' m' p)(hhi:hi<=w.heap.size)(hhi1:hi1<=w.heap.size) :
  kQ kN 18 #[fQ A n c,kO #[p.al,fQ B m d,fQ B' m' d']] w (zhB w (vcT ss p)):=by
 cases h3:three ss p
 ·rw [vcT_none h3];exact zgI h hp h3
 ·obtain⟨x,y,z,rfl⟩:=zfb h3;obtain⟨q,a,f⟩:=zeT h3;have e:vcT [x,y,z] p=chT x y z p q 12 0 ((zac q (zo x p q) [⟨#[]⟩] 11 [⟨#[]⟩]).map fun r=>(r,[⟨#[]⟩])):=by
   unfold vcT;dsimp only;rw [a,if_pos oM,Int.toNat_natCast]
  rw [e];obtain rfl:n=3:=h.1;obtain⟨b,o,s,i,g,j,rfl,_,_,_⟩:=h.sys (k:=0) oM;exact zgJ h hp h3 a oM hhi hhi1
theorem spec_DrawVerifyChain (h:Bytes w A n)(hn:n<=9223372036854775807)(hc:n<=c)(hc2:c<=9223372036854775807) :
  kQ kN 15 #[fQ A n c] w (RetDC w):=by
 have d:=(dB w).alloc (.cells #[(0:Int),(),()] 27);have t:=za (h.ext d);clear h
 go_enter Tryz.func15,Tryz.ntmps15
 go_wp2_with fail
 generalize U0:w.alloc _=E at *;have bz:=eM U0;have z:=bz.lt;clear U0;refine (spec_l19Open t.out hn hc hc2).mono ?_;rintro e F ⟨R,rfl,D,m,f⟩;have j:=d.trans f;have i:=bz.ext f;go_wp2_with fail
 refine (spec_l14Any m oM).mono ?_;rintro e G ⟨l,k,g,c,b,A,n,q,A',n',r,x,u,rfl,o,y,s⟩;have a:=i.dr o.dr oM;have B:=a.cell;have C:=a.frozen;obtain⟨f1,f2⟩:=draw_cl x.out u o y s.out oM j a rfl;have p:=za f1;clear f1 bz i d f;go_wp2_with fail
 have cf:=f2.cell;exact bodyPost_ret (v:=.tuple #[fQ (gO g) k c,kO #[b.al,fQ A n q,fQ A' n' r]]) (by simp [results,Tryz.results15,go_sem,cf]) rfl p.out
section
variable {lo hi lo' hi' n c m d n' c' m' d':Nat}{A B A' B':Option Addr}{w:kJ}
theorem yT17a3 {P:Prop}(h:P:=by
 obtain rfl:x=y:=Option.some.inj (hx.out.symm.trans hy.out);go_wp2
 go_quiet (fail)
 go_wp2;go_roundw
 case rel=>exact⟨k+1,oM,gM,zkt.drewN _⟩
 case measure=>simp [intOf];omega
 ):P:=h
theorem agIntsI_same {l:List Int}(h:Reads w lo hi 1 A n (ints l))(h':Reads w lo' hi' 1 B m (ints l)) :
  kQ kN 201 #[fQ A n c,fQ B m d] w fun e w'=>e=kP (.bool kC)/\Ext w w':=by
 have r:=h.len;have b:=h.length;have f:=h'.length;rw [zdb] at b f;obtain rfl:n=m:=oM;clear b f;have g:=za (fun W (hW:Ext w W)=>h.ext hW);have a:=za (fun W (hW:Ext w W)=>h'.ext hW)
 go_enter Tryz.func201,Tryz.ntmps201
 go_wp2
 go_loopw [5] (fun v wr=>∃ k:Nat,k<=n/\v=.int kA k/\Ext w wr) (fun v _=>n - (intOf v).toNat)
 case atStart=>exact⟨0,dH _,rfl,dB _⟩
 case round =>
  obtain⟨k,q,rfl,zkt⟩:=hrel
  by_cases hlt:k<n
  ·obtain⟨o,x,rfl,_,_,hx,p⟩:=(g.out wr zkt).int hlt;obtain⟨i,y,rfl,_,_,hy,j⟩:=(a.out wr zkt).int hlt;exact yT17a3
  ·obtain rfl:k=n:=oM;go_wp2;go_ret;exact⟨rfl,zkt⟩
theorem agBools_same {l:List Bool}(h:Reads w lo hi 1 A n (zae l))(h':Reads w lo' hi' 1 B m (zae l)) :
  kQ kN 200 #[fQ A n c,fQ B m d] w fun e w'=>e=kP (.bool kC)/\Ext w w':=by
 have r:=h.len;have b:=h.length;have f:=h'.length;rw [zcb] at b f;obtain rfl:n=m:=oM;clear b f;have g:=za (fun W (hW:Ext w W)=>h.ext hW);have a:=za (fun W (hW:Ext w W)=>h'.ext hW)
 go_enter Tryz.func200,Tryz.ntmps200
 go_wp2
 go_loopw [5] (fun v wr=>∃ k:Nat,k<=n/\v=.int kA k/\Ext w wr) (fun v _=>n - (intOf v).toNat)
 case atStart=>exact⟨0,dH _,rfl,dB _⟩
 case round =>
  obtain⟨k,q,rfl,zkt⟩:=hrel
  by_cases hlt:k<n
  ·obtain⟨o,x,rfl,_,_,hx,p⟩:=(g.out wr zkt).bool hlt;obtain⟨i,y,rfl,_,_,hy,j⟩:=(a.out wr zkt).bool hlt;exact yT17a3
  ·obtain rfl:k=n:=oM;go_wp2;go_ret;exact⟨rfl,zkt⟩
theorem zey {a:Aut}(h:zF w lo hi A n A' n' a)(h':zF w lo' hi' B m B' m' a) :
  kQ kN 111 #[kO #[a.al,fQ A n c,fQ A' n' c'],kO #[a.al,fQ B m d,fQ B' m' d']] w fun e w'=>e=kP (.bool kC)/\Ext w w':=by
 have U:=h.1.len;obtain rfl:n=m:=h.1.1.trans h'.1.1.symm;have u:=za (fun W (hW:Ext w W)=>h.1.ext hW);have i:=za (fun W (hW:Ext w W)=>h'.1.ext hW);have s:=za (fun W (hW:Ext w W)=>agBools_same (c:=c') (d:=d') (h.2.2.ext hW) (h'.2.2.ext hW));clear h h'
 go_enter Tryz.func111,Tryz.ntmps111
 go_upto_region 1 with fail
 generalize U0:(w.alloc _).alloc _=r at *;obtain⟨b,y,z⟩:=Ext.x2_ U0;clear U0;have C:=y.cells;have E:=z.cells;have J:=dB r;go_wp2_with (first
  |(go_at_call 200;refine (s.out _ b).mono (mQ fun V o=>?_)))
 go_loopw [5] (fun v wr=>∃ k:Nat,k<=n/\v=.int kA k/\Ext r wr) (fun v _=>n - (intOf v).toNat)
 case atStart=>exact⟨0,dH _,rfl,o⟩
 case round =>
  obtain⟨k,T,rfl,zkt⟩:=hrel
  by_cases hlt:k<n
  ·obtain⟨Q,M,G,l,rfl,_,_,hx,I,q⟩:=(u.out wr (b.trans zkt)).row hlt;obtain⟨x,O,H,L,rfl,_,_,hy,j,f⟩:=(i.out wr (b.trans zkt)).row hlt;obtain rfl:l=L:=kS (hx.out.symm.trans hy.out);have t:=za (fun W (hW:Ext wr W)=>agIntsI_same (c:=G) (d:=H) (q.ext hW) (f.ext hW));clear q f;have g:=dB wr;have R:=fun W (hW:Ext wr W)=>hW.aa I;have S:=fun W (hW:Ext wr W)=>hW.aa j;have D:=fun W (hW:Ext wr W)=>C W (zkt.trans hW);have F:=fun W (hW:Ext wr W)=>E W (zkt.trans hW);go_upto_region 6 with fail
   refine uR (fun X=>Ext wr X) [10] (zx.of [0,1,2,3,4,5,6,7,8,9,10,11]) ?_;refine uQ ?_;refine zb fun K hK=>?_;go_simp;refine (t.out _ g.drew).mono (mQ fun Y p=>?_);refine hK.out _ _ ?_;refine pT ?_;refine uQ ?_;refine zg ?_;go_wp2_with fail
   go_roundw
   case rel=>exact⟨k+1,oM,gM,zkt.trans (g.drew.trans p)⟩
   case measure=>exact uM
  ·obtain rfl:k=n:=oM;go_wp2_with fail
   go_ret;exact⟨rfl,b.trans zkt⟩
end
section
variable {lo hi lo' hi' lo1 hi1 lo2 hi2 n c m d n' c' m' d' k e k' e' q f0 q' f0':Nat}{A B A' B' C C' D D':Option Addr}{w:kJ}
theorem zjv {f u:Aut}(h:zF w lo hi A n A' n' f)(h':zF w lo' hi' B m B' m' f) (g:zF w lo1 hi1 C k C' k' u) (g':zF w lo2 hi2 D q D' q' u) :
  kQ kN 55 #[kO #[f.al,fQ A n c,fQ A' n' c',u.al,fQ C k e,fQ C' k' e'],kO #[f.al,fQ B m d,fQ B' m' d',u.al,fQ D q f0,fQ D' q' f0']] w fun e w'=>e=kP (.bool kC)/\Ext w w':=by
 have p:=za (fun W (hW:Ext w W)=>zey (c:=c) (c':=c') (d:=d) (d':=d') (h.ext hW) (h'.ext hW));have r:=za (fun W (hW:Ext w W)=>zey (c:=e) (c':=e') (d:=f0) (d':=f0') (g.ext hW) (g'.ext hW));clear g g';clear h h'
 go_enter Tryz.func55,Tryz.ntmps55
 go_upto_region 1 with fail
 generalize U0:(w.alloc _).alloc _=t at *;obtain⟨a,l,o⟩:=Ext.x2_ U0;clear U0;have v:=l.cells;have x:=o.cells;have s:=dB t;clear l o;go_wp2_with (first
  |(go_at_call 111;with_reducible refine (p.out _ a).mono (mQ fun y b=>?_))
  |(go_at_call 111;with_reducible refine (r.out _ (a.trans b)).mono (mQ fun z j=>?_);have i:=b.trans j))
 go_ret;exact⟨rfl,a.trans i⟩
theorem agChainVerdicts_same {v:Vc}(h:zF w lo hi A n A' n' v.fst)(h':zF w lo' hi' B m B' m' v.fst) (g:zF w lo1 hi1 C k C' k' v.snd) (g':zF w lo2 hi2 D q D' q' v.snd) :
  kQ kN 17 #[kO #[v.code,v.fst.al,fQ A n c,fQ A' n' c',v.snd.al,fQ C k e,fQ C' k' e',v.tr,v.ro],kO #[v.code,v.fst.al,fQ B m d,fQ B' m' d',v.snd.al,fQ D q f0,fQ D' q' f0',v.tr,v.ro]] w fun e w'=>e=kP (.bool kC)/\Ext w w':=by
 have j:=za (fun W (hW:Ext w W)=>zjv (c:=c) (c':=c') (d:=d) (d':=d') (e:=e) (e':=e') (f0:=f0) (f0':=f0') (h.ext hW) (h'.ext hW) (g.ext hW) (g'.ext hW));clear g g';clear h h'
 go_enter Tryz.func17,Tryz.ntmps17
 go_upto_region 1 with fail
 generalize U0:(w.alloc _).alloc _=o at *;obtain⟨a,f,i⟩:=Ext.x2_ U0;clear U0;have p:=f.cells;have r:=i.cells;have l:=dB o;clear f i;go_wp2_with (first
  |(go_at_call 55;with_reducible refine (j.out _ a).mono (mQ fun s b=>?_)))
 go_ret;exact⟨rfl,a.trans b⟩
end
structure zaS (s t:Sys):Prop where
 al:t.al=s.al
 v1:zk s=kC
 v2:zk t=kC
 runs:∀ v,zju s v↔zju t v
structure zcN (p q:Aut):Prop where
 al:q.al=p.al
 v1:zj p=kC
 v2:zj q=kC
 acc:∀ v:List Nat,(∀ l∈v,l<6)->zaC p (zaO p 0 v)=zaC q (zaO q 0 v)
section
variable {s s' t t':Sys}{p p' a a':Aut}{x:ByteArray}
theorem zcN.refl (h:zj p=kC):zcN p p:=⟨rfl,h,h,fun _ _=>rfl⟩
theorem zjT {v:List Nat}(h:Over L v):∀ l∈v,l<6:=fun l hl=>(h l hl).1
theorem iface_same (hs:zaS s s')(ht:zaS t t')(hp:zcN p p'):iface s' p' t'=iface s p t:=by
 unfold iface;rw [hs.v1,hs.v2,ht.v1,ht.v2,hp.v1,hp.v2,hs.al,ht.al,hp.al]
theorem parts_one (h1:zk t=kC)(h2:zk t'=kC):zA [t']=zA [t]:=by
 simp [zA,h1,h2]
theorem parts_two (h1:zk s=kC)(h2:zk s'=kC)(h3:zk t=kC)(h4:zk t'=kC):zA [s',t']=zA [s,t]:=by
 simp [zA,h1,h2,h3,h4]
end
theorem st_nat (h:zk s=kC):s.st=((s.st.toNat:Nat):Int):=by
 have:=(zeR.1 h).2.1;omega
theorem zhG (hs:Sml s) (hb:s.al.toNat.testBit l=kC):k∈cho s i l↔E s.edges i l k:=by
 obtain⟨-,m,b,-⟩:=hs;unfold cho E;rw [if_pos hb,zD,zdA];constructor
 ·rintro ⟨-,e,a,⟨c,d⟩,f⟩;obtain⟨g,h,j⟩:=b e a;exact⟨e,a,oM,oM,oM⟩
 ·rintro ⟨e,a,c,d,f⟩;obtain⟨g,h,j⟩:=b e a;exact⟨oM,e,a,⟨oM,oM⟩,oM⟩
theorem zfS (hb:¬ s.al.toNat.testBit l=kC):k∈cho s i l↔k=i:=by
 unfold cho;rw [if_neg hb];simp
section
variable {s:Sys}{p R:Nat}
theorem goes_rch (hs:Sml s):∀ (n:Nat) (v:List Nat),v.length=n->∀ q,zbv (cho s) [0] v q->Rch s.edges q:=by
 intro n
 induction n with
 |zero =>
  intro v hv q h;obtain rfl:v=[]:=lJ.1 hv;generalize hw:([]:List Nat)=w at h;cases h with
  |nil h=>
   obtain rfl:q=0:=by simpa using h
   exact .zero
  |snoc h hx=>simp at hw
 |succ n ih =>
  intro v hv q h;obtain⟨u,l,rfl⟩:∃ u l,v=u++[l]:=⟨v.dropLast,v.getLast (by intro e;rw [e] at hv;simp at hv),(jV _).symm⟩;obtain⟨m,c,a⟩:=h.inv;have b:=ih u (by simpa using hv) m c
  by_cases hb:s.al.toNat.testBit l=kC
  ·exact .step b ((zhG hs hb).1 a)
  ·obtain rfl:=(zfS hb).1 a;exact b
theorem goes_sub (hs:Sml s)(hs2:Sml (ziM s R))(hR:zhA s.edges p R):∀ (n:Nat) (v:List Nat),v.length=n->∀ q',zbv (cho (ziM s R)) [0] v q'↔∃ q,zbv (cho s) [0] v q/\rk R q=q':=by
 have o:rk R 0=0:=by simp [rk,letters]
 intro n
 induction n with
 |zero =>
  intro v hv q';obtain rfl:v=[]:=lJ.1 hv;constructor
  ·intro h;generalize hw:([]:List Nat)=w at h;cases h with
   |nil h=>
    obtain rfl:q'=0:=by simpa using h
    exact⟨0,.nil sM,o⟩
   |snoc h hx=>simp at hw
  ·rintro ⟨q,h,rfl⟩;generalize hw:([]:List Nat)=w at h;cases h with
   |nil h=>
    obtain rfl:q=0:=by simpa using h
    rw [o];exact .nil sM
   |snoc h hx=>simp at hw
 |succ n ih =>
  intro v hv q';obtain⟨u,l,rfl⟩:∃ u l,v=u++[l]:=⟨v.dropLast,v.getLast (by intro e;rw [e] at hv;simp at hv),(jV _).symm⟩;have g:u.length=n:=by simpa using hv
  have a:(ziM s R).al=s.al:=rfl;constructor
  ·intro h;obtain⟨z,f,c⟩:=h.inv;obtain⟨m,d,rfl⟩:=(ih u g z).1 f
   by_cases hb:s.al.toNat.testBit l=kC
   ·have b:=(zhG hs2 (by rw [a];exact hb)).1 c;obtain⟨i,k,r,B,t,x,y⟩:=subE_E.1 b;obtain rfl:=rk_inj r ((hR.2 m).2 (goes_rch hs n u g m d)) x;exact⟨k,d.snoc ((zhG hs hb).2 t),y⟩
   ·have b:=(zfS (s:=ziM s R) (by rw [a];exact hb)).1 c;exact⟨m,d.snoc ((zfS hb).2 rfl),b.symm⟩
  ·rintro ⟨q,h,rfl⟩;obtain⟨m,f,c⟩:=h.inv;have d:=(ih u g (rk R m)).2 ⟨m,f,rfl⟩;refine d.snoc ?_;have j:=goes_rch hs n u g m f
   by_cases hb:s.al.toNat.testBit l=kC
   ·have b:=(zhG hs hb).1 c;rw [zhG hs2 (by rw [a];exact hb)];exact subE_E.2 ⟨m,q,(hR.2 m).2 j,(hR.2 q).2 (.step j b),b,rfl,rfl⟩
   ·obtain rfl:=(zfS hb).1 c;exact (zfS (s:=ziM s R) (by rw [a];exact hb)).2 rfl
theorem same_sub (h:zk s=kC)(hp:s.st=p)(hR:zhA s.edges p R):zaS s (ziM s R):=by
 have a:=sub_valid h hp hR;refine⟨rfl,h,a,fun v=>⟨fun ⟨q,hq⟩=>⟨rk R q,?_⟩,fun ⟨q',hq⟩=>?_⟩⟩
 ·exact (goes_sub (zbx h) (zbx a) hR _ v rfl _).2 ⟨q,hq,rfl⟩
 ·obtain⟨q,b,-⟩:=(goes_sub (zbx h) (zbx a) hR _ v rfl _).1 hq;exact⟨q,b⟩
end
structure TrL (W:kJ) (base:Nat) (v:kL) (ss:List Sys) (i:Nat) (es:List Ent):Prop where
 own:W.ownsRow base 38 3 v es.length (zgx es)
 len:es.length=i
 ent:∀ e∈es,∃ lo hi,zR W lo hi e.A e.n e.s/\base<=lo/\hi<=W.heap.size/\∀ b,v.ownBlock=gO b->b<lo\/hi<=b
 same:∀ (j:Nat) (e:Ent) (s:Sys),es[j]?=gO e->ss[j]?=gO s->zaS s e.s
section
variable {W W':kJ}{base i:Nat}{v:kL}{ss:List Sys}{es:List Ent}
theorem TrL.nil (ss:List Sys) (hx:w.heap.size<=W.heap.size):TrL (W.alloc (.cells #[] 38)) w.heap.size (fQ (gO W.heap.size) 0 0) ss 0 []:=
 ⟨zn (World.ownsRow_lit W #[] 0 (dD _) lM rfl) hx,rfl,fun _ h=>by simp at h,fun j e s h=>by simp at h⟩
theorem TrL.ext (h:TrL W base v ss i es)(hx:Ext W W'):TrL W' base v ss i es:=
 ⟨zh h.own hx,h.len,fun e he=>by
  obtain⟨lo,hi,h1,h2,h3,h4⟩:=h.ent e he
  exact⟨lo,hi,h1.ext hx,h2,Nat.le_trans h3 hx.size,h4⟩,h.same⟩
theorem TrL.push {s':Sys}{cap:Nat}(h:TrL W base v ss i es)(hs:ss[i]?=gO s)(hss:zaS s s')(hx:zR W lo hi A' n' s')(hlo:base<=lo)(hhi:hi<=W.heap.size)(hb:∀ b,v.ownBlock=gO b->b<lo\/hi<=b)
  (zkr:W'.ownsRow base 38 3 (fQ (gO g) (es.length+1) cap) (es.length+1) (zgx es++[.int kA s'.al,.int kA s'.st,fQ A' n' c'])) (hg:W.grownBy W' v.ownBlock) (hat:v.ownBlock=gO g\/g=W.heap.size+1) :
  TrL W' base (fQ (gO g) (es.length+1) cap) ss (i+1) (es++[⟨s',A',n',c'⟩]):=by
 have x:Frm (fun k=>v.ownBlock=gO k) W W':=fF hg;have m:∀ {lo hi:Nat} {A:Option Addr} {n:Nat} {u:Sys},zR W lo hi A n u->hi<=W.heap.size->(∀ b,v.ownBlock=gO b->b<lo\/hi<=b)->zR W' lo hi A n u/\hi<=W'.heap.size/\∀ b,(fQ (gO g) (es.length+1) cap).ownBlock=gO b->b<lo\/hi<=b:=by
  intro lo hi A n u a l c;refine⟨a.frm x (fun k hk1 hk2 e=>by rcases c k e with h|h<;>omega),Nat.le_trans l x.size,fun b hb'=>?_⟩
  have e:b=g:=by simpa [Value.ownBlock] using hb'.symm
  subst e;rcases hat with d|d
  ·exact c _ d
  ·exact .inr oM
 refine⟨by rw [entC_snoc,eA,eH];exact zkr,by rw [eA,eH,h.len],fun e f=>?_,fun j e u hj hu=>?_⟩
 ·rcases kY.1 f with f|f
  ·obtain⟨t,o,a,l,c,d⟩:=h.ent e f;obtain⟨p,q,r⟩:=m a c d;exact⟨t,o,p,l,q,r⟩
  ·rw [fB] at f;subst f;obtain⟨p,q,r⟩:=m hx hhi hb;exact⟨lo,hi,p,hlo,q,r⟩
 ·rcases e7 j es.length with a|a
  ·rw [List.getElem?_append_left a] at hj;exact h.same j e u hj hu
  ·rw [eD a] at hj;have l:j - es.length=0:=by have:=(kT.1 hj).1;simp at this;omega
   rw [l] at hj;have c:e=⟨s',A',n',c'⟩:=by simpa using hj.symm
   subst c;have d:j=i:=oH h.len;subst d;rw [hs] at hu;obtain rfl:=kS hu;exact hss
theorem TrL.sl (h:TrL W base (fQ A n c) ss i es):n=i/\zeo W base W.heap.size A n (es.map Ent.s):=by
 have b:n=es.length:=by
  rcases h.own.2 with ⟨a,d⟩|⟨g,o,p,a,_⟩
  ·injection a with _ f;omega
  ·injection a
 have m:=h.own;rw [<- b] at m;refine⟨b.trans h.len,by simpa using b,zgx es,eQ m,fun k s hs=>?_⟩;rw [eC,fW] at hs;obtain⟨e,l,rfl⟩:=hs;obtain⟨a,d,f⟩:=zhk l;obtain⟨u,t,j,q,r,-⟩:=h.ent e (dC l);exact⟨e.A,e.n,e.c,a,d,f,⟨j.1,j.2.more q r⟩⟩
theorem TrL.three {x y z:Sys}(h:TrL W base v [x,y,z] 3 es):∃ x' y' z',es.map Ent.s=[x',y',z']/\zaS x x'/\zaS y y'/\zaS z z':=by
 match es,h.len with
 |[a,b,c],_=>exact⟨a.s,b.s,c.s,rfl,h.same 0 a x rfl rfl,h.same 1 b y rfl rfl,h.same 2 c z rfl rfl⟩
end
def onesN (x:Nat):Nat:=
 let a:=((x / 2)&&&6148914691236517205)+(x&&&6148914691236517205)
 let b:=((a / 4)&&&3689348814741910323)+(a&&&3689348814741910323)
 let c:=((b / 16)+b)&&&1085102592571150095
 let d:=c+c / 256
 let e:=d+d / 65536
 let f:=e+e / 4294967296
 f&&&127
def c8 (x:Nat):Nat:=x % 2+x / 2 % 2+x / 4 % 2+x / 8 % 2+x / 16 % 2+x / 32 % 2+x / 64 % 2+x / 128 % 2
theorem onesN_c8:∀ a:Fin 256,∀ b:Fin 256,onesN (a.val*256+b.val)=c8 a.val+c8 b.val:=by decide +kernel
theorem c8_rk:∀ a:Fin 256,c8 a.val=(letters a.val 8).length:=by decide +kernel
theorem rk_hi (x k:Nat):rk x (8+k)=rk x 8+rk (x / 256) k:=by
 induction k with
 |zero=>rfl
 |succ k ih =>
  have e:(x / 256).testBit k=x.testBit (8+k):=by rw [show (256:Nat)=2 ^ 8 from rfl,Nat.testBit_div_two_pow,Nat.add_comm]
  rw [<- Nat.add_assoc,zdC x (8+k),zdC (x / 256) k,ih,e];omega
theorem rk_lo (x:Nat):∀ k,k<=8->rk (x % 256) k=rk x k
 |0,_=>rfl
 |k+1,h=>by
  rw [zdC,zdC,rk_lo x k oM,show (256:Nat)=2 ^ 8 from rfl,Nat.testBit_mod_two_pow]
  simp [show k<8 by omega]
theorem rk_top (h:x<2 ^ n):∀ d,rk x (n+d)=rk x n
 |0=>rfl
 |d+1=>by
  rw [<- Nat.add_assoc,zdC,rk_top h d,iF (eI h (eL oM oM))]
  rfl
theorem onesN_rk (h:x<65536):onesN x=rk x 32:=by
 have e:=onesN_c8 ⟨x / 256,oM⟩ ⟨x % 256,oM⟩;have a:c8 (x / 256)=rk (x / 256) 8:=c8_rk ⟨x / 256,oM⟩;have b:c8 (x % 256)=rk (x % 256) 8:=c8_rk ⟨x % 256,oM⟩;simp only at e;rw [show x / 256*256+x % 256=x by omega] at e;have c:rk x 32=rk x 16:=rk_top (n:=16) h 16;have d:rk x 16=rk x 8+rk (x / 256) 8:=rk_hi x 8;have f:=rk_lo x 8 (dD _);omega
theorem and_u64 {b:Nat}(ha:a<18446744073709551616)(hb:b<18446744073709551616):bits .and .u64 (a:Int) (b:Int)=((a&&&b:Nat):Int):=by
 have hx:a&&&b<=a:=gW;show IntKind.u64.wrap ((BitVec.ofInt 64 (a:Int)&&&BitVec.ofInt 64 (b:Int)).toNat:Int)=_;rw [BitVec.toNat_and,BitVec.ofInt_natCast,BitVec.ofInt_natCast,BitVec.toNat_ofNat,BitVec.toNat_ofNat,iE oM,iE oM,IntKind.wrap_u64];omega
theorem zfP (ha:a<18446744073709551616) (C:Nat)(hb:C<18446744073709551616) (I:Int)(hI:I=(C:Int)):bits .and .u64 (a:Int) I=((a&&&C:Nat):Int):=by
 subst hI;exact and_u64 ha hb
theorem ones64 (hx:x<65536) (w:kJ):kQ kN 266 #[.int .u64 (x:Nat)] w fun e w'=>e=kP (.int kA (rk x 32:Nat))/\w=w':=by
 have h:=onesN_rk hx;dsimp only [onesN] at h;have g:=za h;clear h;have wr:∀ y:Nat,y<18446744073709551616->IntKind.u64.wrap (y:Int)=(y:Int):=fun y hy=>by rw [IntKind.wrap_u64];omega
 have E:x / 2&&&6148914691236517205<=x / 2:=gW;have F:x&&&6148914691236517205<=x:=gW;have J:bits .and .u64 ((x:Int) / 2) 6148914691236517205=((x / 2&&&6148914691236517205:Nat):Int):=zfP (a:=x / 2) oM 6148914691236517205 oM _ rfl;have L:bits .and .u64 (x:Int) 6148914691236517205=((x&&&6148914691236517205:Nat):Int):=zfP (a:=x) oM 6148914691236517205 oM _ rfl;generalize x / 2&&&6148914691236517205=j at *;generalize x&&&6148914691236517205=l at *;have u:IntKind.u64.wrap ((j:Int)+(l:Int))=((j+l:Nat):Int):=by rw [<- gV];exact wr _ oM
 obtain⟨a,o⟩:∃ a,a=j+l:=⟨_,rfl⟩;rw [<- o] at u g;have G:a / 4&&&3689348814741910323<=a / 4:=gW;have H:a&&&3689348814741910323<=a:=gW;have M:bits .and .u64 ((a:Int) / 4) 3689348814741910323=((a / 4&&&3689348814741910323:Nat):Int):=zfP (a:=a / 4) oM 3689348814741910323 oM _ rfl;have O:bits .and .u64 (a:Int) 3689348814741910323=((a&&&3689348814741910323:Nat):Int):=zfP (a:=a) oM 3689348814741910323 oM _ rfl;generalize a / 4&&&3689348814741910323=m at *;generalize a&&&3689348814741910323=n at *;have v:IntKind.u64.wrap ((m:Int)+(n:Int))=((m+n:Nat):Int):=by rw [<- gV];exact wr _ oM
 obtain⟨b,p⟩:∃ b,b=m+n:=⟨_,rfl⟩;rw [<- p] at v g;have z:IntKind.u64.wrap ((b:Int) / 16+(b:Int))=((b / 16+b:Nat):Int):=by rw [show (b:Int) / 16+(b:Int)=((b / 16+b:Nat):Int) by omega];exact wr _ oM
 obtain⟨k,t⟩:∃ k,k=b / 16+b:=⟨_,rfl⟩;rw [<- t] at z g;have I:k&&&1085102592571150095<=k:=gW;have Q:bits .and .u64 (k:Int) 1085102592571150095=((k&&&1085102592571150095:Nat):Int):=zfP (a:=k) oM 1085102592571150095 oM _ rfl;generalize k&&&1085102592571150095=c at *;have B:IntKind.u64.wrap ((c:Int)+(c:Int) / 256)=((c+c / 256:Nat):Int):=by rw [show (c:Int)+(c:Int) / 256=((c+c / 256:Nat):Int) by omega];exact wr _ oM
 obtain⟨d,q⟩:∃ d,d=c+c / 256:=⟨_,rfl⟩;rw [<- q] at B g;have C:IntKind.u64.wrap ((d:Int)+(d:Int) / 65536)=((d+d / 65536:Nat):Int):=by rw [show (d:Int)+(d:Int) / 65536=((d+d / 65536:Nat):Int) by omega];exact wr _ oM
 obtain⟨e,r⟩:∃ e,e=d+d / 65536:=⟨_,rfl⟩;rw [<- r] at C g;have D:IntKind.u64.wrap ((e:Int)+(e:Int) / 4294967296)=((e+e / 4294967296:Nat):Int):=by rw [show (e:Int)+(e:Int) / 4294967296=((e+e / 4294967296:Nat):Int) by omega];exact wr _ oM
 obtain⟨f,s⟩:∃ f,f=e+e / 4294967296:=⟨_,rfl⟩;rw [<- s] at D g;have i:f<4294967296:=oM;have f1:=za (zbC (a:=f) (b:=127) i tM);have f2:IntKind.i64.wrap (f:Int)=(f:Int):=IntWalk.i64_in _ oM;clear o p t q r s E F G H I wr
 go_enter Tryz.func266,Tryz.ntmps266
 go_wp2;go_ret;exact⟨zao (by rw [<- g.out];exact f1.out),rfl⟩
theorem ones (hx:x<65536) (w:kJ):kQ kN 189 #[.int .u64 (x:Nat)] w fun e w'=>e=kP (.int kA (rk x 32:Nat))/\w=w':=by
 go_enter Tryz.func189,Tryz.ntmps189
 go_wp2_with (go_at_call 266;refine (ones64 hx _).mono ?_;rintro e w' ⟨rfl,rfl⟩)
 go_ret;exact⟨rfl,rfl⟩
theorem rk_mask (R:Nat) (hn:n<=32):rk (R&&&(2 ^ n - 1)) 32=rk R n:=by
 have a:∀ k,rk (R&&&(2 ^ n - 1)) k=rk R (min k n):=by
  intro k
  induction k with
  |zero=>simp [rk,letters_zero]
  |succ k ih =>
   rw [zdC,ih,Nat.testBit_and,Nat.testBit_two_pow_sub_one]
   by_cases h:k<n
   ·rw [show min (k+1) n=min k n+1 by omega,show min k n=k by omega,zdC];simp [h]
   ·rw [show min (k+1) n=min k n by omega];simp [h]
 rw [a,show min 32 n=n by omega]
theorem impl_rank (hR:R<65536)(hn:n<32) (w:kJ):kQ kN 190 #[.int kA (R:Nat),.int kA (n:Nat)] w fun e w'=>e=kP (.int kA (rk R n:Nat))/\w=w':=by
 have i:=(Sm.bit hn).lt;have h:=Nat.two_pow_pos n;have k:=wrap_pow hn;have d:=za (rk_mask R (n:=n) oM);generalize 2 ^ n=q at *;have f:=zbC (a:=R) (b:=q - 1) tM tM;rw [show ((q - 1:Nat):Int)=(q:Int) - 1 by omega] at f;have c:R&&&(q - 1)<65536:=jE gW hR;generalize R&&&(q - 1)=m at *;have j:IntKind.u64.wrap (m:Int)=(m:Int):=by rw [IntKind.wrap_u64];omega
 have g:=za (fun W=>ones c W);rw [<- d.out];clear d;generalize rk m 32=r at *
 go_enter Tryz.func190,Tryz.ntmps190
 go_wp2_with (go_at_call 189;refine (g.out _).mono ?_;rintro e w' ⟨rfl,rfl⟩)
 go_ret;exact⟨rfl,rfl⟩
section
variable {es:List Edg}{p:Nat}
def RIn (es:List Edg) (p R:Nat):Prop:=R<2 ^ p/\R.testBit 0=kC/\∀ i,R.testBit i=kC->Rch es i
def More (es:List Edg) (R j M:Nat):Prop:=∀ k,M.testBit k=kC↔R.testBit k=kC\/∃ l,l<j/\(zbK es R (l:Nat)).testBit k=kC
theorem More.zero (R:Nat):More es R 0 R:=fun k=>⟨Or.inl,fun h=>h.elim id (fun ⟨_,h,_⟩=>oM)⟩
theorem More.succ (h:More es R j M):More es R (j+1) (M|||zbK es R (j:Nat)):=fun k=>by
 rw [Nat.testBit_or,Bool.or_eq_true,h k]
 constructor
 ·rintro ((h1|⟨l,h1,h2⟩)|h1)
  ·exact Or.inl h1
  ·exact Or.inr ⟨l,oM,h2⟩
  ·exact Or.inr ⟨j,oM,h1⟩
 ·rintro (h1|⟨l,h1,h2⟩)
  ·exact Or.inl (Or.inl h1)
  ·rcases e7 l j with h3|h3
   ·exact Or.inl (Or.inr ⟨l,h3,h2⟩)
   ·obtain rfl:l=j:=oM
    exact Or.inr h2
theorem More.lt (hf:Few p es) (hR:R<2 ^ p)(h:More es R j M):M<2 ^ p:=by
 apply Nat.lt_pow_two_of_testBit;intro k hk;rw [Bool.eq_false_iff];intro hb;rcases (h k).1 hb with a|⟨l,_,a⟩
 ·rw [iF (eI hR (eL oM hk))] at a;cases a
 ·rw [iF (eI (zhv hf R l) (eL oM hk))] at a;cases a
theorem More.in_ (hf:Few p es) (hR:RIn es p R)(h:More es R j M):RIn es p M:=by
 refine⟨h.lt hf hR.1,(h 0).2 (Or.inl hR.2.1),fun k hk=>?_⟩;rcases (h k).1 hk with a|⟨l,_,a⟩
 ·exact hR.2.2 k a
 ·obtain⟨e,b,⟨c,d⟩,f⟩:=(zcG es R l k).1 a;have:=hf e b;exact (hR.2.2 _ d).step ⟨e,b,oM,c,oM⟩
theorem le_of_bits {b:Nat}(h:∀ k,a.testBit k=kC->b.testBit k=kC):a<=b:=by
 have e:a|||b=b:=or_same h
 rw [<- e];exact Nat.left_le_or
theorem More.le (h:More es R j M):R<=M:=le_of_bits fun k hk=>(h k).2 (Or.inl hk)
theorem More.done (hf:Few p es) (hR:RIn es p R)(h:More es R 6 R):zhA es p R:=by
 refine⟨hR.1,fun i=>⟨hR.2.2 i,fun hi=>?_⟩⟩
 induction hi with
 |zero=>exact hR.2.1
 |@step i l k _ hk ih =>
  obtain⟨e,a,c,b,d⟩:=hk;have:=hf e a;refine (h k).2 (Or.inr ⟨l,oM,(zcG es R l k).2 ⟨e,a,⟨b,?_⟩,oM⟩⟩);rw [show e.fr.toNat=i by omega];exact ih
theorem RIn.start (hp:1<=p):RIn es p 1:=by
 refine⟨?_,rfl,fun i hi=>?_⟩
 ·have:=eL (n:=2) oM hp;omega
 ·have:i=0:=by
   rcases gZ i with h|h
   ·exact h
   ·obtain⟨j,rfl⟩:∃ j,i=j+1:=⟨i - 1,oM⟩;rw [Nat.testBit_succ] at hi;simp at hi
  subst this;exact .zero
end
theorem pow16 (h:x<2 ^ p)(hp:p<=16):x<65536:=eI h (by rw [show (65536:Nat)=2 ^ 16 from rfl];exact eL oM hp)
theorem zfi (h:zR w lo hi A n s)(hT:Tab w)(hv:zk s=kC)(hp:s.st=p) :
  kQ kN 100 #[kO #[s.al,s.st,fQ A n c]] w fun e w'=>∃ R:Nat,e=kP (.int kA R)/\Hid (zhA s.edges p R)/\Ext w w':=by
 obtain⟨V,F,G,g,U⟩:=zcq hv;obtain rfl:V=p:=oM;have Q:=za (fun W (hW:Ext w W)=>h.ext hW);have o:=za (fun W (hW:Ext w W)=>hT.ext hW);have m:=za U;have Y:=za hv;clear U hv h hT hp F
 go_enter Tryz.func100,Tryz.ntmps100
 go_wp2_with fail
 refine (zaG (Q.out _ ((dB _).alloc _))).mono ?_;rw [Y.out];rintro e w1 ⟨rfl,l⟩;have S:=(eO w 38 #[s.al,s.st,fQ A n c]).ext l;have k1:=S.cell;have k:=((dB w).alloc (.cells #[s.al,s.st,fQ A n c] 38)).trans l;go_wp2_with fail
 refine (zdn (Q.out _ k) (fun e he=>by have:=m.out e he;omega)).mono ?_;rintro e L ⟨b,rfl,hb,T,u⟩;have t:=k.trans u;have X:=za (fun W (hW:Ext L W)=>(T.ext hW).at_);clear T k1 S l u k;go_wp2_with fail
 go_loopw [4,5,6] (fun v _ _ wr=>∃ x:Nat,v=.int kA x/\x<65536/\Hid (RIn s.edges V x)/\Ext L wr) (fun v _ _ _=>65536 - (intOf v).toNat)
 case atStart=>exact⟨1,rfl,oM,RIn.start G,dB _⟩
 case round =>
  obtain⟨x,rfl,hx,B,d⟩:=hrel;go_wp2_with fail
  go_loopw [5,6,13] (fun v _ i wr=>∃ j M:Nat,i=.int kA j/\j<=6/\v=.int kA M/\M<65536/\Hid (More s.edges x j M)/\Ext L wr) (fun _ _ i _=>6 - (intOf i).toNat)
  case atStart=>exact⟨0,x,rfl,oM,rfl,hx,More.zero x,d⟩
  case round =>
   clear d;obtain⟨j,M,rfl,hj,rfl,z,f,d⟩:=hrel
   by_cases hj6:j<6
   ·have I:=za (impl_step (X.out _ d) (o.out _ (t.trans d)) (show x<2 ^ 16 from hx) hj6 m.out g);have H:=stepB_sm m.out g x j;have E:=za (zbn (a:=M) tM H);have q:=za f.out.succ;have D:=pow16 (q.out.lt m.out B.out.1) g;clear f;generalize zbK s.edges x (j:Nat)=y at *;go_wp2_with fail
    refine I.out.mono (mQ fun w4 J=>?_);go_wp2_with fail
    go_roundw
    case rel=>exact⟨j+1,M|||y,gM,oM,by rw [E.out],D,q,d.trans J⟩
    case measure=>exact uM
   ·obtain rfl:j=6:=oM
    by_cases hMx:M=x
    ·subst hMx;have r:=za (f.out.done m.out B.out);have O:=t.trans d;go_wp2_with fail
     go_ret;exact⟨M,rfl,r,O⟩
    ·have aa:((M:Int)==(x:Int))=kK:=by simp;omega
     have Z:=f.out.le;have C:=za (f.out.in_ m.out B.out);go_wp2_with fail
     go_roundw
     case rel=>exact⟨M,rfl,z,C,d⟩
     case measure=>exact uM
theorem zhn (W:kJ) (Z:Nat) (u0 u1 u2:kL):Frm (fun k=>k=Z) W (((W.setCell Z u0).setCell ⟨Z,1,gP⟩ u1).setCell ⟨Z,2,gP⟩ u2):=
 ((dG W Z 0 u0).trans (dG _ Z 1 u1)).trans (dG _ Z 2 u2)
theorem zhm {cs:Array kL}(h:Blk w Z t cs)(hc:cs.size=3) (u0 u1 u2:kL):Blk (((w.setCell Z u0).setCell ⟨Z,1,gP⟩ u1).setCell ⟨Z,2,gP⟩ u2) Z t #[u0,u1,u2]:=by
 obtain⟨l⟩:=cs
 match l,hc with
 |[a,b,c],_=>simpa using ((h.ab 0 u0).ab 1 u1).ab 2 u2
end Go.Proofs.YtckbjnndaaoddaaGreatDoor
