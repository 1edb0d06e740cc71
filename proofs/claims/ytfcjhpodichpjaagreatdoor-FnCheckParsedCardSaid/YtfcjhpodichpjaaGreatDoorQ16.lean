/- impl.ParseAu -/
import Derived.Test.YtfcjhpodichpjaaGreatDoorQ15
set_option maxHeartbeats 4000000
set_option maxRecDepth 100000
namespace Go.Proofs.YtfcjhpodichpjaaGreatDoor
open Go Go.RowKit
open Bool renaming and_eq_true->dF
open Ext renaming refl->cW
open Frm renaming setCell->dE
open List renaming mem_of_getElem?->cX,take_add_one->dH
open Nat renaming le_refl->cY,lt_succ_self->iT
open Reads renaming af->dY
variable {p s x:ByteArray} {w:World}
theorem yQ16a3 {P:Prop}(h:P:=by
 go_wp2_with fail
 have hfb:=zal bz4 rfl (.int .i64 0) (.slice none 0 0) (.slice none 0 0);have cf:=hfb.cell;exact bodyPost_ret (v:=.tuple #[.agg #[(0:Int),(),()],.bool false]) (by simp [results,Tryz.results31,go_sem,cf]) rfl hno4.out
 ):P:=h
theorem yQ16b2 {P:Prop}(h:P:=by
 have cf:=hfb.cell;exact bodyPost_ret (v:=.tuple #[.agg #[(0:Int),(),()],.bool false]) (by simp [results,Tryz.results31,go_sem,cf]) rfl hno.out
 ):P:=h
theorem yQ16a4 {P:Prop}(h:P:=by
 go_wp2_with fail
 have hfb:=zal bz2 rfl (.int .i64 0) (.slice none 0 0) (.slice none 0 0);exact yQ16b2
 ):P:=h
theorem zdU (hx:x.size<=2000000)(hE:Sent w) :
  Calls Tryz.prog 31 #[x] w (RetPX x w):=by
 have HE:=za (fun W (hW:Ext w W)=>hE.ext hW);clear hE
 go_enter Tryz.func31,Tryz.ntmps31
 go_wp2_with fail
 generalize U0:w.alloc _=w0 at *;have t:=Ext.al_ U0;have bz:=Ext.bl_ U0;have b4:=bz.lt;clear U0;refine (lib_Split (s:=x) oM).mono ?_;rintro e w1 ⟨B,m,d,l,rfl,aN,ap,ag,hm,hcut,bl⟩;have az:=za (piece_size hcut.out);have aA:=za aN;have I:=za (fun a j he=>txt_count hcut.out (a:=a) j he);have b1:m<=2000001:=oM;clear aN;obtain⟨gB,rfl,bX,-⟩:=zac ag ap;have b0:=zgT ag;have bI:(m:Int)<=(d:Int):=oM;obtain⟨ad,x0,am,-,-,ab,aJ⟩:=(dY ag).str (k:=0) ap;obtain rfl:=Option.some.inj am;rw [zK,Nat.add_zero] at aJ;have bH:(0:Int)<(m:Int):=oM;have J:=za (fun a j he=>txt_first hcut.out ab.out (a:=a) j he);have aB:=za (fun h=>first_ne hcut.out ab.out h);have aC:=za (fun (i:Nat) (hi:1<=i) (y:ByteArray) (h0:l[i]?=some y) a j he=>txt_row hcut.out hi h0 (a:=a) j he);clear hcut;go_wp2_with fail
 refine (zez (x:=x0) (by have:=az.out x0 (cX ab.out);omega)).mono ?_;rintro e w2 ⟨o,bo,rfl,j,Q,aQ⟩;have aa:=bl.trans aQ;have bz2:=bz.ext aa;have a7:=bz2.cell;have a8:=bz2.frozen;cases bo
 ·have hno:=za (zgV (x:=x) (Z:=w.heap.size) (t.trans aa) (cY _) (fun a j he=>by
   rcases Q.out with h|⟨-,-,h⟩
   ·exact absurd h.1 dM
   ·exact h _ (zaz j).2.1 (J.out a j he).symm))
  exact yQ16a4
 ·by_cases h13:13<m
  ·have aG:(13:Int)<(m:Int):=oM;have hno:=za (zgV (x:=x) (Z:=w.heap.size) (t.trans aa) (cY _) (fun a j he=>by
    have p:=I.out a j he;have L:=(zaz j).2.2.2.1;have M:=aA.out;omega))
   exact yQ16a4
  have aG:(m:Int)<=13:=oM;have R:alX o=x0.data.toList:=by
   rcases Q.out with h|h
   ·exact h.2
   ·exact absurd h.1 dM
  have a5:=za (aB.out (by rw [← R];exact al_ne j));have a4:=za (fun (a:Aut) (h:zh a=true) (he:zfo a=x.data.toList)=>show a.al=(o:Int) from by
   have p:=al_inj j (zaz h).2.1 (R.trans (J.out a h he));have:=(zaz h).1;omega)
  clear Q R;have bG:=Blk.new w2 26 #[o,(),()];have aR:=(cW w2).alloc (.cells #[o,(),()] 26);have bi:=aa.size;have aV:=zg ag aQ;go_upto_region 6 with fail
  have aW:=zg aV aR;have g:Gro w0 (w2.alloc (.cells #[o,(),()] 26)) w2.heap.size o (.slice none 0 0) [] [] (.slice none 0 0) []:=⟨bG,World.ownsRow_nil _ _ _ _,zG.nil _ _,World.ownsRow_nil _ _ _ _,aa.trans aR,bi⟩;generalize w2.alloc _=w3 at *;generalize w2.heap.size=G at *;clear a7 a8 aJ aV
  go_cut [31,32,33,34] (fun _ s32 s33 s34 wx=>s33=.int .i64 ((m - 1:Nat):Int)∧s34=.int .i64 0∧(∃ oB dB,s32=.slice (some ⟨gB,oB,none⟩) (m - 1) dB∧(1<m->oB=1))∧wx=w3)
  case first =>
   by_cases hd1:d=1
   ·subst hd1;obtain rfl:m=1:=oM;go_wp2_with fail
    go_meet;exact⟨rfl,rfl,⟨0,_,rfl,fun h=>oM⟩,rfl⟩
   ·go_wp2_with fail
    go_meet;exact⟨rfl,rfl,⟨1,_,rfl,fun _=>rfl⟩,rfl⟩
  case rest =>
  obtain⟨rfl,rfl,⟨oB,dB,rfl,bg⟩,rfl⟩:=hcut;go_wp2_with fail
  go_loopw [9,10,11,34] (fun _ _ _ iv wr=>∃ (i:Nat) (v:Value) (C:List Value) (n:List (List Int)) (vA:Value) (f:List Bool),i+1<=m∧iv=.int .i64 (i:Nat)∧Gro w0 wr G o v C n vA f∧Hid (n.length<=i)∧Hid (f.length=n.length)∧Hid (∀ a,zh a=true->zfo a=x.data.toList->n=a.next.take i∧f=a.acc.take i)∧wr.ownsRow w0.heap.size 9 1 (.slice (some gB) m d) m (zM l)) (fun _ _ _ iv _=>m - (intOf iv).toNat)
  case atStart=>exact⟨0,_,_,[],_,[],ap,rfl,g,za (Nat.zero_le _),za rfl,za (fun a _ _=>⟨rfl,rfl⟩),aW⟩
  case round =>
   clear g aW;obtain⟨i,v,C,n,vA,f,hi,rfl,g,ao,aI,aq,T⟩:=hrel;have O:=bz.ext g.ext
   by_cases hlt:i+1<m
   ·obtain rfl:=bg oM;have bF:(i:Int)<((m - 1:Nat):Int):=oM;obtain⟨ad,q,am,-,-,au,aK⟩:=(dY T).str hlt;obtain rfl:=Option.some.inj am;rw [zK,Nat.zero_add,Nat.add_comm] at aK;have bV:=az.out q (cX au.out);have HR:=za (aC.out (i+1) oM q au.out);rw [Nat.add_sub_cancel] at HR;cases he:q.toList.isEmpty
    ·have bw:=za (zgS he);have bT:1<=q.size:=by
      rcases Nat.eq_zero_or_pos q.size with h0|h0
      ·rw [ByteArray.toList_eq] at he;have e2:q.data.toList.length=q.size:=rfl;rw [List.eq_nil_of_length_eq_zero (e2.trans h0)] at he;cases he
      ·exact h0
     have bB:(1:Int)<=(q.size:Int):=oM;have bW:(q.extract 1 q.size).size<=x.size:=by rw [ByteArray.size_extract];omega
     have HJ:=za (fun (a:Aut) (j:zh a=true) (he:zfo a=x.data.toList)=>show ∃ r b,a.next[i]?=some r∧a.acc[i]?=some b∧RowS r∧zcp (r.map Int.toNat)=(q.extract 1 q.size).data.toList∧q.data.toList=rowX b r from by
      obtain⟨r,b,p,L,M,D⟩:=HR.out a j he;exact⟨r,b,p,L,M,(rest_list D).symm,D⟩)
     go_wp2_with fail
     refine (zfu (s:=q.extract 1 q.size) oM (HE.out _ (t.trans g.ext))).mono ?_;rintro e w4 ⟨Ar,nr,cr,lr,ok,rfl,bf,aO,b2,an,u⟩;cases ok
     ·have hno4:=za (zgV (x:=x) (Z:=w.heap.size) ((t.trans g.ext).trans u) (cY _) (fun a j he=>by
       obtain⟨r,b,p,L,M,D,-⟩:=HJ.out a j he;exact absurd (an.out _ M.nat D).1 dM))
      have bz4:=O.ext u;have cz:=bz4.cell;have fz:=bz4.frozen;exact yQ16a3
     ·subst bf;have HL:=za (fun (a:Aut) (j:zh a=true) (he:zfo a=x.data.toList)=>show ∃ b,a.next[i]?=some lr∧a.acc[i]?=some b∧q.data.toList=rowX b lr from by
       obtain⟨r,b,p,L,M,D,h5⟩:=HJ.out a j he;have e:lr=r:=(an.out _ M.nat D).2.trans (cast_row M);subst e;exact⟨b,p,L,h5⟩)
      have aL:=za g.low;have bh:=za g.ext.size;have c:=g.more u;have E:=zg T u;have cG:=c.blk.cell;have bj:=c.ext.size;have bZ:n.length<=2000001:=oH ao.out;have aD:=za au.out;clear g T aK an HJ;go_upto_region 15 with (at_builtin;refine zar w0 w4 rfl _ _ _ rfl 74 _ 1 24 Tryz.underlying23 zcd rfl dM v n.length C _ _ rfl rfl bj c.nx rfl (zaU _ _ _) lM oM ?_;intro g5 cap5 w6 hown6 hg6 hat6 hlt6;obtain⟨q1,q2,q3⟩:=c.ar aL.out bh.out aO hown6 hg6 hat6;have bp:=q1.out;have F:=(zf E (Frm.ae hg6) (fun b hb hS=>zaM E c.nx dM hb hS)))
      have U:=zf F (dE w6 G 1 (.slice (some g5) (n.length+1) cap5)) (fun b hb hS=>by
       have ba:Blk w6 G 26 #[.int .i64 o,v,vA]:=(hg6.block G c.blk.lt (fun e=>zq c.nx c.blk dM e.symm rfl)).trans c.blk;exact zq F ba dM hb hS)
      have aj:=za (show (n++[lr]).length<=i+1 by have:=ao.out;simp;omega);have ai:=za (show f.length+1=(n++[lr]).length by have:=aI.out;simp;omega);have aP:=za (fun (a:Aut) (j:zh a=true) (he:zfo a=x.data.toList)=>show n++[lr]=a.next.take (i+1)∧f=a.acc.take i∧∃ b,a.acc[i]?=some b∧q.data.toList=rowX b lr from by
       obtain⟨p,L⟩:=aq.out a j he;obtain⟨b,M,D,h5⟩:=HL.out a j he;refine⟨?_,L,b,D,h5⟩;rw [dH,← p,M];rfl)
      clear q1 bp q2 hown6 hg6 hat6 hlt6 F E c cG ao aI aq aO HL;generalize n++[lr]=bm at *;generalize C++[.slice Ar lr.length cr]=br at *;generalize w6.setCell ⟨G,1,none⟩ (.slice (some g5) (n.length+1) cap5)=w7 at *;generalize Value.slice (some g5) (n.length+1) cap5=v7 at *;obtain⟨bM,H,aH,-,-,ak,S⟩:=(dY U).str hlt;obtain rfl:=Option.some.inj aH;rw [zK,Nat.zero_add,Nat.add_comm] at S;obtain rfl:H=q:=Option.some.inj (ak.out.symm.trans aD.out);have cG:=fun W (hW:Ext w7 W)=>(q3.blk.ext hW).cell;have cS:∀ W,Ext w7 W->W.cell? ⟨gB,1+i,none⟩=some (.string H):=fun W hW=>hW.aa S;have aF:0<H.size:=oM;have bA:(0:Int)<(H.size:Int):=oM;have bU:=zbS H 0 aF;have ah:=za (fun (b:Bool) (h:H.data.toList=rowX b lr)=>head_sign h aF);obtain⟨bb,be⟩:∃ bb,((H[0].toNat:Int)==43)=bb:=⟨_,rfl⟩;rw [be] at ah;have bk:=cW w7;clear S ak aD;refine uR (fun X=>Ext w7 X) [6,8] (zw.of [0,1,2,3,4,5,6,7,8]) ?_;refine uQ ?_;have ar:=bk.drew;refine zd fun K hK=>?_;go_simp;refine hK.out _ _ (ar.alloc _) ?_;refine pT ?_;refine zb fun K hK=>?_;have b3:=q3.ext.size;have z:=q3.more ar;have bD:f.length<=2000001:=by have:=ai.out;have:=aj.out;omega
      have V:=zg U ar;refine zaL w0 w7.drew _ _ _ rfl 4 _ 1 1 Tryz.underlying24 zbf rfl dM vA f.length (zaA f) _ _ rfl rfl z.ext.size z.acc rfl (by simp [Value.oneCell']) lM oM ?_;intro g8 cap8 w8 hown8 hg8 hat8 hlt8;refine hK.out _ _ ?_;refine pT ?_;refine uQ ?_;obtain⟨p1,p2,p3⟩:=z.ao (x:=bb) (W':=w8) hown8 hg8 hat8;have b7:=p1.out;have Y:=zf V (Frm.ae hg8) (fun b hb hS=>zaM V z.acc dM hb hS);have af:=zf Y (dE w8 G 2 (.slice (some g8) (f.length+1) cap8)) (fun b hb hS=>by
       have bc:Blk w8 G 26 #[.int .i64 o,v7,vA]:=(hg8.block G z.blk.lt (fun e=>zq z.acc z.blk dM e.symm rfl)).trans z.blk;exact zq Y bc dM hb hS)
      refine zb fun K hK=>?_;go_simp;refine hK.out _ _ ?_;refine ze ?_;go_wp2_with fail
      go_roundw
      case rel=>exact⟨i+1,_,_,bm,_,f++[bb],oM,gM,p3,za (oH aj.out),za (by have:=ai.out;simp;omega),za (fun a j he=>by
       obtain⟨p,L,b,M,D⟩:=aP.out a j he;refine⟨p,?_⟩;rw [dH,← L,M,ah.out b D];rfl),af⟩
      case measure=>simp [intOf];omega
    ·have cz:=O.cell;have fz:=O.frozen;have hno:=za (zgV (x:=x) (Z:=w.heap.size) (t.trans g.ext) (cY _) (fun a j h=>by
      obtain⟨r,b,-,-,-,D⟩:=HR.out a j h;rw [ziw he] at D;cases D))
     go_wp2_with fail
     have hfb:=zal O rfl (.int .i64 0) (.slice none 0 0) (.slice none 0 0);exact yQ16b2
   ·obtain⟨A5,c5,rfl⟩:=zi g.nx;obtain⟨B5,d5,rfl⟩:=zi g.acc;have bd:zI wr w0.heap.size wr.heap.size A5 n.length B5 f.length (⟨o,n,f⟩:Aut):=⟨zes.reads ⟨C,g.nx,g.rows⟩ rfl,rfl,dY g.acc⟩;have cG:=g.blk.cell;have HE:=za (fun (a:Aut) (j:zh a=true) (he:zfo a=x.data.toList)=>show (⟨o,n,f⟩:Aut)=a from by
     obtain⟨p,L⟩:=aq.out a j he;have M:=I.out a j he;have D:=a4.out a j he;have h5:=aA.out;have h6:=(zaz j).2.2.1;rw [List.take_of_length_le oM] at p L;cases a;simp only [Aut.mk.injEq];exact⟨D.symm,p,L⟩)
    go_wp2_with fail
    refine (zcb (a:=⟨o,n,f⟩) bd).mono ?_;rintro e w4 ⟨tx,rfl,htx,u⟩;have c:=g.more u;have bz4:=O.ext u;have cz:=bz4.cell;have fz:=bz4.frozen;have bN:=c.blk.cell;clear cG;cases hne:tx.toList==x.toList
    ·have hno4:=za (zgV (x:=x) (Z:=w.heap.size) ((t.trans g.ext).trans u) (cY _) (fun a j he=>by
      have e:=HE.out a j he;rw [ByteArray.toList_eq,ByteArray.toList_eq,htx.out,e,he] at hne;simp at hne))
     exact yQ16a3
    ·have aS:=za (show ParsX x true ⟨o,n,f⟩ from by
      have p:zfo ⟨o,n,f⟩=x.data.toList:=by
       rw [ByteArray.toList_eq,ByteArray.toList_eq,htx.out] at hne;exact eq_of_beq hne
      refine .inl ⟨rfl,?_,p⟩;cases hv:zh (⟨o,n,f⟩:Aut) with
      |true=>rfl
      |false =>
       unfold zfo at p;rw [hv] at p;exact absurd p.symm a5.out)
     have hF:=zaD w4 w.heap.size (.int .i64 o) (.slice A5 n.length c5) (.slice B5 f.length d5);obtain⟨f1,-,-⟩:=c.fin t (hF.mono (fun k _ hk=>by have bY:k=w.heap.size:=hk;omega));have f2:=zal bz4 rfl (.int .i64 o) (.slice A5 n.length c5) (.slice B5 f.length d5);have f3:=(t.trans c.ext).frm hF (fun k hk e=>oM);go_wp2_with fail
     have cf:=f2.cell;exact bodyPost_ret (v:=.tuple #[.agg #[o,.slice A5 n.length c5,.slice B5 f.length d5],.bool true]) (by simp [results,Tryz.results31,go_sem,cf]) rfl ⟨⟨o,n,f⟩,A5,_,c5,B5,_,d5,true,rfl,f1,aS,f3⟩
theorem zaB {lo hi:Nat} {A:Option Addr} {n c:Nat} {A':Option Addr} {n' c':Nat} {hd:Bool} {a:Aut}  (h:zI w lo hi A n A' n' a)(hs:s.size<=2000000) :
  Calls Tryz.prog 7 #[.agg #[.bool hd,a.al,.slice A n c,.slice A' n' c',s]] w (RetTx (zgt hd a s) w):=by
 have f:=za (fun W (hW:Ext w W)=>zca _ _ _ _ c _ _ c' hd _ s W (h.ext hW) oM);have m:=za (fun W (hW:Ext w W)=>zcb (c:=c) (c':=c') (h.ext hW));have o:=za (txtA_len a);cases hv:zC hd a s
 ·rw [hv] at f;have d:=za (txtC_no hv);clear h hv
  go_enter Tryz.func7,Tryz.ntmps7
  go_wp2_with (go_at_call 8;refine (f.out _ ((cW _).alloc _)).mono (mQ fun w1 b=>?_))
  go_ret;exact⟨_,rfl,za d.out.symm,((cW _).alloc _).trans b⟩
 ·rw [hv] at f;cases hd
  ·have d:=za (txtC_fails hv);clear h hv
   go_enter Tryz.func7,Tryz.ntmps7
   go_wp2_with fail
   refine (f.out _ ((cW _).alloc _)).mono (mQ fun w1 b=>?_);have i:=zaV b;have p:=i.cell;have hw1:=((cW w).alloc _).trans b;go_wp2_with fail
   refine (zit s _).mono ?_;rintro e u ⟨⟨t,rfl,q,j⟩,rfl⟩;have r:¬ 9223372036854775807<6+t.size:=oM;go_wp2_with fail
   go_ret;exact⟨_,rfl,za (by rw [d.out];exact tx_app rfl q.out),hw1⟩
  ·have d:=za (txtC_holds hv);clear h hv
   go_enter Tryz.func7,Tryz.ntmps7
   go_wp2_with fail
   refine (f.out _ ((cW _).alloc _)).mono (mQ fun w1 b=>?_);have i:=zaV b;have p:=i.cell;have hw1:=((cW w).alloc _).trans b;go_wp2_with fail
   refine (m.out _ hw1).mono ?_;rintro e u ⟨l,rfl,g,k⟩;have j:l.size<=300:=by rw [tx_size g.out];exact o.out
   have r:¬ 9223372036854775807<6+l.size:=oM;go_wp2_with fail
   go_ret;exact⟨_,rfl,za (by rw [d.out];exact tx_app rfl g.out),hw1.trans k⟩
def zht (s p:ByteArray):Bool:=decide (p.size<=s.size)&&((s.extract 0 p.size).toList==p.toList)
theorem ziy (s p:ByteArray) (w:World):Calls Tryz.prog 113 #[s,p] w fun e w'=>e=.returned (.bool (zht s p))∧w=w':=by
 by_cases h:p.size<=s.size
 ·have b:(p.size:Int)<=(s.size:Int):=oM;have a:=za (show zht s p=((s.extract 0 p.size).toList==p.toList) by simp [zht,h])
  go_enter Tryz.func113,Tryz.ntmps113
  go_wp2;go_ret;exact⟨zj (by rw [a.out]),rfl⟩
 ·have b:¬ ((p.size:Int)<=(s.size:Int)):=oM;have a:=za (show zht s p=false by simp [zht,h])
  go_enter Tryz.func113,Tryz.ntmps113
  go_wp2;go_ret;exact⟨zj (by rw [a.out]),rfl⟩
theorem hasP_le (h:zht s p=true):p.size<=s.size:=by
 unfold zht at h;rw [dF,decide_eq_true_eq] at h;exact h.1
def RetCp (s p:ByteArray) (w:World) (e:Ending) (w':World):Prop:=e=.returned (.tuple #[.string (if zht s p=true then s.extract p.size s.size else s),.bool (zht s p)])∧w=w'
theorem zhc (s p:ByteArray) (w:World):Calls Tryz.prog 63 #[s,p] w (RetCp s p w):=by
 have a:=za (ziy s p);cases h:zht s p
 ·rw [h] at a;have b:=za h
  go_enter Tryz.func63,Tryz.ntmps63
  go_wp2_with (go_at_call 113;refine (a.out _).mono ?_;rintro e d ⟨rfl,rfl⟩)
  exact bodyPost_ret (v:=.tuple #[s,.bool false]) (by simp [results,Tryz.results63,go_sem]) rfl ⟨by rw [b.out];rfl,rfl⟩
 ·rw [h] at a;have b:=za h;have f:=hasP_le h;have c:(p.size:Int)<=(s.size:Int):=oM;clear h
  go_enter Tryz.func63,Tryz.ntmps63
  go_wp2_with (go_at_call 113;refine (a.out _).mono ?_;rintro e d ⟨rfl,rfl⟩)
  exact bodyPost_ret (v:=.tuple #[.string (s.extract p.size s.size),.bool true]) (by simp [results,Tryz.results63,go_sem]) rfl ⟨by rw [b.out];rfl,rfl⟩
theorem zfc (s p:ByteArray) (w:World):Calls Tryz.prog 30 #[s,p] w (RetCp s p w):=by
 obtain⟨y,d⟩:∃ y,Hid ((if zht s p=true then s.extract p.size s.size else s)=y):=⟨_,za rfl⟩;obtain⟨b,c⟩:∃ b,Hid (zht s p=b):=⟨_,za rfl⟩;have a:=za (fun W=>zhc s p W);unfold RetCp at a ⊢;rw [d.out,c.out] at a ⊢
 go_enter Tryz.func30,Tryz.ntmps30
 go_wp2_with (go_at_call 63;refine (a.out _).mono ?_;rintro e f ⟨rfl,rfl⟩)
 exact bodyPost_ret (v:=.tuple #[y,.bool b]) (by simp [results,Tryz.results30,go_sem]) rfl ⟨rfl,rfl⟩
theorem pre_yes {P:List UInt8}(hp:p.data.toList=P)(h6:P.length=6)(h:zht x p=true):x.data.toList=P++(x.extract 6 x.size).data.toList:=by
 have a:p.size=6:=by rw [← h6,← hp];rfl
 unfold zht at h;rw [dF,a,ByteArray.toList_eq,ByteArray.toList_eq,hp] at h;exact six_join (eq_of_beq h.2)
theorem pre_no {P:List UInt8}(hp:p.data.toList=P)(h6:P.length=6)(h:zht x p=false):∀ r,x.data.toList≠P++r:=by
 intro r e;have c:p.size=6:=by rw [← h6,← hp];rfl
 have a:x.data.toList.length=x.size:=rfl;have b:6<=x.size:=by rw [← a,e,List.length_append,h6];omega
 unfold zht at h;rw [c,ByteArray.toList_eq,ByteArray.toList_eq,hp,six_head h6 e] at h;simp [b] at h
theorem yQ16c1 {P:Prop}(h:P:=by
 go_wp2_with fail
 have c4:=r4.cell;exact bodyPost_ret (v:=.tuple #[.agg #[.bool false,(0:Int),(),(),.string ⟨#[]⟩],.bool false]) (by simp [results,Tryz.results11,go_sem,c4]) rfl zjf.out
 ):P:=h
theorem yQ16b1 {P:Prop}(h:P:=by
 have zjf:=ziC (Z:=w.heap.size) (K:=w.heap.size+1) (A:=none) (n:=0) (c:=0) (A':=none) (n':=0) (c':=0) hw1 (Nat.le_refl _) (Nat.lt_succ_self _) (zbu _ _) (ziB hcand.out (ziZ hne htx.out));have r4:=zP bz1 rfl (.bool false) (.int .i64 0) (.slice none 0 0) (.slice none 0 0) (.string ⟨#[]⟩);exact yQ16c1
 ):P:=h
theorem yQ16a1 {P:Prop}(h:P:=by
 have ho1:=zbu w1 (w.heap.size+1);have cG:=bG.cell;go_upto_region 99 with fail
 refine (zaB (a:=⟨0,[],[]⟩) (ho1.reads) (show (⟨#[]⟩:ByteArray).size<=2000000 by decide)).mono ?_;rintro e w9 ⟨tx,rfl,htx,hx9⟩;clear cG;replace bG:=bG.ext hx9;replace bz1:=bz1.ext hx9;replace ho1:=ho1.ext hx9;replace hw1:=hw1.trans hx9;have cG:=bG.cell;have cz:=bz1.cell;have fz:=bz1.frozen;cases hne:tx.toList==x.toList
 ·exact yQ16b1
 ·have zjf:=ziC (Z:=w.heap.size) (K:=w.heap.size+1) hw1 (Nat.le_refl _) (Nat.lt_succ_self _) ho1 (zgn hxne (ziY hne htx.out));have r4:=zP bz1 rfl (.bool false) (.int .i64 0) (.slice none 0 0) (.slice none 0 0) (.string ⟨#[]⟩);go_wp2_with fail
  have c4:=r4.cell;exact bodyPost_ret (v:=.tuple #[.agg #[.bool false,(0:Int),(),(),.string ⟨#[]⟩],.bool true]) (by simp [results,Tryz.results11,go_sem,c4]) rfl zjf.out
 ):P:=h
theorem yQ16a2 {P:Prop}(h:P:=by
 exact yQ16b1
 ):P:=h
theorem impl_ParseCertificateX (hx:x.size<=2000000)(hE:Sent w) :
  Calls Tryz.prog 11 #[x] w (RetPC x w):=by
 have L:=za (fun W (hW:Ext w W)=>hE.ext hW);clear hE;have f:=za (fun W=>zfc x ⟨#[104,111,108,100,115,32]⟩ W);have g:=za (fun W=>zfc x ⟨#[102,97,105,108,115,32]⟩ W);have H:(x.extract 6 x.size).size<=2000000:=by rw [ByteArray.size_extract];omega
 go_enter Tryz.func11,Tryz.ntmps11
 go_upto_region 2 with fail
 generalize U0:(w.alloc _).alloc _=w1 at *;obtain⟨hw1,bz1,bG⟩:=Ext.x2_ U0;have s:w.heap.size+1+1<=w1.heap.size:=by rw [← U0];simp
 clear U0;cases he:x.toList.isEmpty
 ·have hxne:=zgS he;cases hh:zht x ⟨#[104,111,108,100,115,32]⟩
  ·have i:=pre_no (x:=x) (P:=zds) rfl rfl hh;unfold RetCp at f;rw [hh] at f;cases j:zht x ⟨#[102,97,105,108,115,32]⟩
   ·have z:=pre_no (x:=x) (P:=zdz) rfl rfl j;unfold RetCp at g;rw [j] at g;have hcand:=za (show ∀ hd' a' t',zC hd' a' t'=true->zgt hd' a' t'=x.data.toList->false=hd'∧(⟨0,[],[]⟩:Aut)=a'∧(⟨#[]⟩:ByteArray)=t' from fun hd a t hv e=>by
     obtain⟨-,-,-,O⟩:=zhM i hv e;exact absurd O (z _))
    go_wp2_with fail
    refine (f.out _).mono ?_;rintro e r ⟨rfl,rfl⟩;go_wp2_with fail
    refine (g.out _).mono ?_;rintro e r ⟨rfl,rfl⟩;clear i z hh j f g;exact yQ16a1
   ·unfold RetCp at g;rw [j] at g;have o:∀ l,x.data.toList=zdz++l->(x.extract 6 x.size).data.toList=l:=fun l e=>six_rest rfl e;have I:(⟨#[102,97,105,108,115,32]⟩:ByteArray).size=6:=rfl;cases hdd:(x.extract 6 x.size).toList==[45]
    ·have hcand:=za (zhL (t:=x.extract 6 x.size) i o (by
      rw [if_neg];intro e;rw [ByteArray.toList_eq,e] at hdd;simp at hdd))
     have y:=bG.frozen;have cG:=bG.cell;go_wp2_with fail
     refine (f.out _).mono ?_;rintro e r ⟨rfl,rfl⟩;go_wp2_with fail
     refine (g.out _).mono ?_;rintro e r ⟨rfl,rfl⟩;go_upto_region 9 with fail
     have d:Blk (w1.setCell ⟨w.heap.size+1,4,none⟩ (.string (x.extract 6 x.size))) (w.heap.size+1) 28 #[.bool false,.int .i64 0,.slice none 0 0,.slice none 0 0,.string (x.extract 6 x.size)]:=by simpa using bG.ab 4 (.string (x.extract 6 x.size))
     replace bz1:=bz1.far (p:=⟨w.heap.size+1,4,none⟩) sM (.string (x.extract 6 x.size));replace hw1:=hw1.setCell (p:=⟨w.heap.size+1,4,none⟩) (show w.heap.size<=w.heap.size+1 by omega) (.string (x.extract 6 x.size));clear bG y cG i o hdd hh j f g s;generalize w1.setCell ⟨w.heap.size+1,4,none⟩ (.string (x.extract 6 x.size))=J at *;have bG:=d;clear d;generalize x.extract 6 x.size=t at *;have ho1:=zbu J (w.heap.size+1);have cG:=bG.cell;go_upto_region 99 with fail
     refine (zaB (a:=⟨0,[],[]⟩) (ho1.reads) H).mono ?_;rintro e w9 ⟨tx,rfl,htx,hx9⟩;clear cG;replace bG:=bG.ext hx9;replace bz1:=bz1.ext hx9;replace ho1:=ho1.ext hx9;replace hw1:=hw1.trans hx9;have cG:=bG.cell;have cz:=bz1.cell;have fz:=bz1.frozen;cases hne:tx.toList==x.toList
     ·exact yQ16a2
     ·have zjf:=ziC (Z:=w.heap.size) (K:=w.heap.size+1) hw1 (cY _) (iT _) ho1 (zgn hxne (ziY hne htx.out));have r4:=zP bz1 rfl (.bool false) (.int .i64 0) (.slice none 0 0) (.slice none 0 0) (.string t);go_wp2_with fail
      have c4:=r4.cell;exact bodyPost_ret (v:=.tuple #[.agg #[.bool false,(0:Int),(),(),t],.bool true]) (by simp [results,Tryz.results11,go_sem,c4]) rfl zjf.out
    ·have hcand:=za (zhL (t:=⟨#[]⟩) i o (by
      rw [if_pos];rw [ByteArray.toList_eq] at hdd;exact eq_of_beq hdd))
     go_wp2_with fail
     refine (f.out _).mono ?_;rintro e r ⟨rfl,rfl⟩;go_wp2_with fail
     refine (g.out _).mono ?_;rintro e r ⟨rfl,rfl⟩;go_upto_region 9 with fail
     clear i o hdd hh j f g;exact yQ16a1
  ·have m:=pre_yes (x:=x) (P:=zds) rfl rfl hh;unfold RetCp at f;rw [hh] at f;have y:=bG.frozen;have cG:=bG.cell;go_wp2_with fail
   refine (f.out _).mono ?_;rintro e r ⟨rfl,rfl⟩;go_upto_region 5 with fail
   have d:Blk (w1.setCell ⟨w.heap.size+1,0,none⟩ (.bool true)) (w.heap.size+1) 28 #[.bool true,.int .i64 0,.slice none 0 0,.slice none 0 0,.string ⟨#[]⟩]:=by simpa using bG.ab 0 (.bool true)
   replace bz1:=bz1.far (p:=⟨w.heap.size+1,0,none⟩) sM (.bool true);replace hw1:=hw1.setCell (p:=⟨w.heap.size+1,0,none⟩) (show w.heap.size<=w.heap.size+1 by omega) (.bool true);have B:w.heap.size+1+1<=(w1.setCell ⟨w.heap.size+1,0,none⟩ (.bool true)).heap.size:=by simpa [World.setCell] using s
   clear bG y cG hh f g s;generalize w1.setCell ⟨w.heap.size+1,0,none⟩ (.bool true)=J at *;have bG:=d;clear d;have cG:=bG.cell;go_upto_region 99 with fail
   refine (zdU (x:=x.extract 6 x.size) H (L.out _ hw1)).mono ?_;rintro e C ⟨b,A,n,c,A',n',c',Q,rfl,D,G,q⟩;have hcand:=za (holds_cand m G.out);clear cG m G;replace bG:=bG.ext q;replace bz1:=bz1.ext q;replace hw1:=hw1.trans q;replace D:=D.less B;clear q B;have cG:=bG.cell;have y:=bG.frozen;go_upto_region 9 with fail
   clear cG y;have d:Blk (((C.setCell ⟨w.heap.size+1,1,none⟩ b.al).setCell ⟨w.heap.size+1,2,none⟩ (.slice A n c)).setCell ⟨w.heap.size+1,3,none⟩ (.slice A' n' c')) (w.heap.size+1) 28 #[.bool true,.int .i64 b.al,.slice A n c,.slice A' n' c',.string ⟨#[]⟩]:=by
    simpa using ((bG.ab 1 (.int .i64 b.al)).ab 2 (.slice A n c)).ab 3 (.slice A' n' c')
   have j:Frm (fun k=>k=w.heap.size+1) C (((C.setCell ⟨w.heap.size+1,1,none⟩ b.al).setCell ⟨w.heap.size+1,2,none⟩ (.slice A n c)).setCell ⟨w.heap.size+1,3,none⟩ (.slice A' n' c')):=((dE C (w.heap.size+1) 1 _).trans (dE _ (w.heap.size+1) 2 _)).trans (dE _ (w.heap.size+1) 3 _);replace bz1:=bz1.frm j oM;have ho1:=(D.aq j (fun k h1 e=>by have M:k=w.heap.size+1:=e;omega)).less (show w.heap.size+1<=w.heap.size+1+1 by omega);replace hw1:=hw1.frm j (fun k hk e=>by have M:k=w.heap.size+1:=e;omega);clear bG D j;generalize ((C.setCell ⟨w.heap.size+1,1,none⟩ b.al).setCell ⟨w.heap.size+1,2,none⟩ (.slice A n c)).setCell ⟨w.heap.size+1,3,none⟩ (.slice A' n' c')=R at *;have bG:=d;clear d;have cG:=bG.cell;go_upto_region 99 with fail
   refine (zaB (a:=b) (ho1.reads) (show (⟨#[]⟩:ByteArray).size<=2000000 by decide)).mono ?_;rintro e w9 ⟨tx,rfl,htx,hx9⟩;clear cG;replace bG:=bG.ext hx9;replace bz1:=bz1.ext hx9;replace ho1:=ho1.ext hx9;replace hw1:=hw1.trans hx9;have cG:=bG.cell;have cz:=bz1.cell;have fz:=bz1.frozen;cases hne:tx.toList==x.toList
   ·exact yQ16a2
   ·have zjf:=ziC (Z:=w.heap.size) (K:=w.heap.size+1) hw1 (cY _) (iT _) ho1 (zgn hxne (ziY hne htx.out));have r4:=zP bz1 rfl (.bool true) (.int .i64 b.al) (.slice A n c) (.slice A' n' c') (.string ⟨#[]⟩);go_wp2_with fail
    have c4:=r4.cell;exact bodyPost_ret (v:=.tuple #[.agg #[.bool true,b.al,.slice A n c,.slice A' n' c',.string ⟨#[]⟩],.bool true]) (by simp [results,Tryz.results11,go_sem,c4]) rfl zjf.out
 ·have u:=ziw he;have F:zht x ⟨#[104,111,108,100,115,32]⟩=false:=by
   cases h:zht x ⟨#[104,111,108,100,115,32]⟩
   ·rfl
   ·have:=pre_yes (x:=x) (P:=zds) rfl rfl h;rw [u] at this;cases this
  have E:zht x ⟨#[102,97,105,108,115,32]⟩=false:=by
   cases h:zht x ⟨#[102,97,105,108,115,32]⟩
   ·rfl
   ·have:=pre_yes (x:=x) (P:=zdz) rfl rfl h;rw [u] at this;cases this
  unfold RetCp at f g;rw [F] at f;rw [E] at g;have zjf:=ziC (Z:=w.heap.size) (K:=w.heap.size+1) (A:=none) (n:=0) (c:=0) (A':=none) (n':=0) (c':=0) hw1 (cY _) (iT _) (zbu _ _) (pars_empty u);have cz:=bz1.cell;have fz:=bz1.frozen;have r4:=zP bz1 rfl (.bool false) (.int .i64 0) (.slice none 0 0) (.slice none 0 0) (.string ⟨#[]⟩);go_wp2_with fail
  refine (f.out _).mono ?_;rintro e r ⟨rfl,rfl⟩;go_wp2_with fail
  refine (g.out _).mono ?_;rintro e r ⟨rfl,rfl⟩;exact yQ16c1
section
open Go.ChangeShapes Go.WideShapes Go.ChangeAt Go.Deep
def BytesAt (w:World) (A:Option Addr) (n c:Nat):Prop:=Bytes w A n∧n<=9223372036854775807∧n<=c∧c<=9223372036854775807
theorem arg_bytes {H:Type} {enc:TypeId × Value->H}  {spare:Nat->Bool} {held:Bool} {r:Reach} {b0:Nat} {v:Value} {d:DataW H} {p:List MemPlace}(hv:Value.okWide Tryz.prog w r b0 22 v)(h:DataW.Trod enc Tryz.prog w 0 spare held 22 v d p) :
  ∃ (A:Option Addr) (n c:Nat),v=.slice A n c∧BytesAt w A n c:=by
 obtain⟨a,l,k,rfl⟩:=okWide_slice Tryz.underlying22 hv;obtain⟨t,F⟩:=h;rcases open_slice1 Tryz.underlying22 kM F with ⟨f,_⟩|⟨s,L,B,m,n,V,D,M,f,R,G,J,q,_,z⟩
 ·simp [Value.cells] at f;obtain⟨rfl,rfl,rfl⟩:=f;exact⟨_,_,_,rfl,fun h=>absurd h oM,oM,cY _,oM⟩
 ·simp [Value.cells] at f;obtain⟨rfl,rfl,rfl⟩:=f;unfold maxLen at J;have I:l<=m:=by rw [q];split<;>omega
  refine⟨_,_,_,rfl,fun hn=>?_,oM,G,oM⟩;have u:=(z 0 oM).1;have y:=zcK u;have g:=World.block_lt_of_cell? w _ u;rw [zhJ] at g;refine⟨s.block,s.off,by rw [← y],g,fun j hj=>?_⟩;obtain⟨x,C⟩:=z j oM;obtain⟨b,i,_,o⟩:=DataW.trod_int Tryz.underlying5 C;have E:V j=.int .u8 b:=by simpa using i
  rw [E,y,zK] at x;have S:0<=b∧b<256:=by
   simp only [Lit.wf,dF,decide_eq_true_eq] at o;have O:IntKind.u8.min=0:=rfl;have Q:IntKind.u8.max=255:=rfl;omega
  refine⟨b.toNat,oM,?_⟩;rw [x];have:((b.toNat:Nat):Int)=b:=oM;rw [this]
end
end Go.Proofs.YtfcjhpodichpjaaGreatDoor
