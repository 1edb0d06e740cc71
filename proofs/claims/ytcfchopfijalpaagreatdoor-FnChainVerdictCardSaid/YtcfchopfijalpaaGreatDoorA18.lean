/- The laws' ow -/
import Derived.Test.YtcfchopfijalpaaGreatDoorA17
set_option maxHeartbeats 4000000
set_option maxRecDepth 100000
namespace Go.Proofs.YtcfchopfijalpaaGreatDoor
open Go Go.RowKit
open Bool renaming and_eq_true->dH
open Ext renaming eq_->fQ,refl->dB,x2_->iG
open Nat renaming zero_le->dG
variable {A B C:Option Addr} {M R c d k m n:Nat} {W w:World} {p:Aut} {ss:List Sys}
section
variable {lo hi lo' hi' n c m d n' c' m' d':Nat} {A B A' B':Option Addr} {w:World}
theorem yA18a1 {P:Prop}(h:P:=by
 obtain rfl:x=y:=Option.some.inj (hx.out.symm.trans hy.out);go_wp2
 go_quiet (fail)
 go_wp2;go_roundw
 case rel=>exact⟨k+1,oM,gM,zkd.drewN _⟩
 case measure=>simp [intOf];omega
 ):P:=h
theorem agIntsI_same {l:List Int}(h:Reads w lo hi 1 A n (ints l))(h':Reads w lo' hi' 1 B m (ints l)) :
  Calls Tryz.prog 93 #[.slice A n c,.slice B m d] w fun e w'=>e=.returned (.bool true)∧Ext w w':=by
 have r:=h.len;have b:=h.length;have f:=h'.length;rw [zdn] at b f;obtain rfl:n=m:=oM;clear b f;have g:=za (fun W (hW:Ext w W)=>h.ext hW);have a:=za (fun W (hW:Ext w W)=>h'.ext hW)
 go_enter Tryz.func93,Tryz.ntmps93
 go_wp2
 go_loopw [5] (fun v wr=>∃ k:Nat,k<=n∧v=.int .i64 k∧Ext w wr) (fun v _=>n - (intOf v).toNat)
 case atStart=>exact⟨0,dG _,rfl,dB _⟩
 case round =>
  obtain⟨k,q,rfl,zkd⟩:=hrel
  by_cases hlt:k<n
  ·obtain⟨o,x,rfl,_,_,hx,p⟩:=(g.out wr zkd).int hlt;obtain⟨i,y,rfl,_,_,hy,j⟩:=(a.out wr zkd).int hlt;exact yA18a1
  ·obtain rfl:k=n:=oM;go_wp2;go_ret;exact⟨rfl,zkd⟩
theorem agBools_same {l:List Bool}(h:Reads w lo hi 1 A n (zah l))(h':Reads w lo' hi' 1 B m (zah l)) :
  Calls Tryz.prog 92 #[.slice A n c,.slice B m d] w fun e w'=>e=.returned (.bool true)∧Ext w w':=by
 have r:=h.len;have b:=h.length;have f:=h'.length;rw [zcf] at b f;obtain rfl:n=m:=oM;clear b f;have g:=za (fun W (hW:Ext w W)=>h.ext hW);have a:=za (fun W (hW:Ext w W)=>h'.ext hW)
 go_enter Tryz.func92,Tryz.ntmps92
 go_wp2
 go_loopw [5] (fun v wr=>∃ k:Nat,k<=n∧v=.int .i64 k∧Ext w wr) (fun v _=>n - (intOf v).toNat)
 case atStart=>exact⟨0,dG _,rfl,dB _⟩
 case round =>
  obtain⟨k,q,rfl,zkd⟩:=hrel
  by_cases hlt:k<n
  ·obtain⟨o,x,rfl,_,_,hx,p⟩:=(g.out wr zkd).bool hlt;obtain⟨i,y,rfl,_,_,hy,j⟩:=(a.out wr zkd).bool hlt;exact yA18a1
  ·obtain rfl:k=n:=oM;go_wp2;go_ret;exact⟨rfl,zkd⟩
theorem zdj {a:Aut}(h:zH w lo hi A n A' n' a)(h':zH w lo' hi' B m B' m' a) :
  Calls Tryz.prog 40 #[.agg #[a.al,.slice A n c,.slice A' n' c'],.agg #[a.al,.slice B m d,.slice B' m' d']] w fun e w'=>e=.returned (.bool true)∧Ext w w':=by
 have U:=h.1.len;obtain rfl:n=m:=h.1.1.trans h'.1.1.symm;have u:=za (fun W (hW:Ext w W)=>h.1.ext hW);have i:=za (fun W (hW:Ext w W)=>h'.1.ext hW);have s:=za (fun W (hW:Ext w W)=>agBools_same (c:=c') (d:=d') (h.2.2.ext hW) (h'.2.2.ext hW));clear h h'
 go_enter Tryz.func40,Tryz.ntmps40
 go_upto_region 1 with fail
 generalize U0:(w.alloc _).alloc _=r at *;obtain⟨b,y,z⟩:=iG U0;clear U0;have C:=y.cells;have E:=z.cells;have J:=dB r;go_wp2_with (first
  |(go_at_call 92;refine (s.out _ b).mono (mQ fun V o=>?_)))
 go_loopw [5] (fun v wr=>∃ k:Nat,k<=n∧v=.int .i64 k∧Ext r wr) (fun v _=>n - (intOf v).toNat)
 case atStart=>exact⟨0,dG _,rfl,o⟩
 case round =>
  obtain⟨k,T,rfl,zkd⟩:=hrel
  by_cases hlt:k<n
  ·obtain⟨Q,M,G,l,rfl,_,_,hx,I,q⟩:=(u.out wr (b.trans zkd)).row hlt;obtain⟨x,O,H,L,rfl,_,_,hy,j,f⟩:=(i.out wr (b.trans zkd)).row hlt;obtain rfl:l=L:=Option.some.inj (hx.out.symm.trans hy.out);have t:=za (fun W (hW:Ext wr W)=>agIntsI_same (c:=G) (d:=H) (q.ext hW) (f.ext hW));clear q f;have g:=dB wr;have R:=fun W (hW:Ext wr W)=>hW.aa I;have S:=fun W (hW:Ext wr W)=>hW.aa j;have D:=fun W (hW:Ext wr W)=>C W (zkd.trans hW);have F:=fun W (hW:Ext wr W)=>E W (zkd.trans hW);go_upto_region 6 with fail
   refine uR (fun X=>Ext wr X) [10] (zy.of [0,1,2,3,4,5,6,7,8,9,10,11]) ?_;refine uQ ?_;refine zb fun K hK=>?_;go_simp;refine (t.out _ g.drew).mono (mQ fun Y p=>?_);refine hK.out _ _ ?_;refine pT ?_;refine uQ ?_;refine zg ?_;go_wp2_with fail
   go_roundw
   case rel=>exact⟨k+1,oM,gM,zkd.trans (g.drew.trans p)⟩
   case measure=>simp [intOf];omega
  ·obtain rfl:k=n:=oM;go_wp2_with fail
   go_ret;exact⟨rfl,b.trans zkd⟩
end
section
variable {lo hi lo' hi' lo1 hi1 lo2 hi2 n c m d n' c' m' d' k e k' e' q f0 q' f0':Nat} {A B A' B' C C' D D':Option Addr} {w:World}
theorem agVerdicts_same {v:Vd}(h:zH w lo hi A n A' n' v.asm)(h':zH w lo' hi' B m B' m' v.asm) :
  Calls Tryz.prog 43 #[.agg #[v.code,v.asm.al,.slice A n c,.slice A' n' c',v.tr,v.ro],.agg #[v.code,v.asm.al,.slice B m d,.slice B' m' d',v.tr,v.ro]] w fun e w'=>e=.returned (.bool true)∧Ext w w':=by
 have i:=za (fun W (hW:Ext w W)=>zdj (c:=c) (c':=c') (d:=d) (d':=d') (h.ext hW) (h'.ext hW));clear h h'
 go_enter Tryz.func43,Tryz.ntmps43
 go_upto_region 1 with fail
 generalize U0:(w.alloc _).alloc _=k at *;obtain⟨a,f,g⟩:=iG U0;clear U0;have l:=f.cells;have o:=g.cells;have j:=dB k;clear f g;go_wp2_with (first
  |(go_at_call 40;with_reducible refine (i.out _ a).mono (mQ fun p b=>?_)))
 go_ret;exact⟨rfl,a.trans b⟩
theorem zjg {f u:Aut}(h:zH w lo hi A n A' n' f)(h':zH w lo' hi' B m B' m' f) (g:zH w lo1 hi1 C k C' k' u) (g':zH w lo2 hi2 D q D' q' u) :
  Calls Tryz.prog 90 #[.agg #[f.al,.slice A n c,.slice A' n' c',u.al,.slice C k e,.slice C' k' e'],.agg #[f.al,.slice B m d,.slice B' m' d',u.al,.slice D q f0,.slice D' q' f0']] w fun e w'=>e=.returned (.bool true)∧Ext w w':=by
 have p:=za (fun W (hW:Ext w W)=>zdj (c:=c) (c':=c') (d:=d) (d':=d') (h.ext hW) (h'.ext hW));have r:=za (fun W (hW:Ext w W)=>zdj (c:=e) (c':=e') (d:=f0) (d':=f0') (g.ext hW) (g'.ext hW));clear g g';clear h h'
 go_enter Tryz.func90,Tryz.ntmps90
 go_upto_region 1 with fail
 generalize U0:(w.alloc _).alloc _=t at *;obtain⟨a,l,o⟩:=iG U0;clear U0;have v:=l.cells;have x:=o.cells;have s:=dB t;clear l o;go_wp2_with (first
  |(go_at_call 40;with_reducible refine (p.out _ a).mono (mQ fun y b=>?_))
  |(go_at_call 40;with_reducible refine (r.out _ (a.trans b)).mono (mQ fun z j=>?_);have i:=b.trans j))
 go_ret;exact⟨rfl,a.trans i⟩
theorem agChainVerdicts_same {v:Vc}(h:zH w lo hi A n A' n' v.fst)(h':zH w lo' hi' B m B' m' v.fst) (g:zH w lo1 hi1 C k C' k' v.snd) (g':zH w lo2 hi2 D q D' q' v.snd) :
  Calls Tryz.prog 38 #[.agg #[v.code,v.fst.al,.slice A n c,.slice A' n' c',v.snd.al,.slice C k e,.slice C' k' e',v.tr,v.ro],.agg #[v.code,v.fst.al,.slice B m d,.slice B' m' d',v.snd.al,.slice D q f0,.slice D' q' f0',v.tr,v.ro]] w fun e w'=>e=.returned (.bool true)∧Ext w w':=by
 have j:=za (fun W (hW:Ext w W)=>zjg (c:=c) (c':=c') (d:=d) (d':=d') (e:=e) (e':=e') (f0:=f0) (f0':=f0') (h.ext hW) (h'.ext hW) (g.ext hW) (g'.ext hW));clear g g';clear h h'
 go_enter Tryz.func38,Tryz.ntmps38
 go_upto_region 1 with fail
 generalize U0:(w.alloc _).alloc _=o at *;obtain⟨a,f,i⟩:=iG U0;clear U0;have p:=f.cells;have r:=i.cells;have l:=dB o;clear f i;go_wp2_with (first
  |(go_at_call 90;with_reducible refine (j.out _ a).mono (mQ fun s b=>?_)))
 go_ret;exact⟨rfl,a.trans b⟩
end
theorem vcT_three (h:(vcT ss p).code=3):vcT ss p=⟨3,noA,noA,⟨#[]⟩,0⟩:=by
 cases h3:three ss p
 ·exact zeH h3
 ·obtain⟨x,y,z,rfl⟩:=zaQ h3;obtain⟨L,-,-,a⟩:=zgv h3;have:=a.code;omega
theorem vcT_noneL (h:(vcT ss p).code≠0):(vcT ss p).fst=noA∧(vcT ss p).snd=noA:=by
 cases h3:three ss p
 ·rw [zeH h3];exact⟨rfl,rfl⟩
 ·obtain⟨x,y,z,rfl⟩:=zaQ h3;obtain⟨L,-,-,a⟩:=zgv h3;exact a.none_ h
theorem chain_second (h:(vcT ss p).code=0):∃ x y z,ss=[x,y,z]∧(vpT y z (vcT ss p).fst).code=0∧(vpT y z (vcT ss p).fst).asm=(vcT ss p).snd:=by
 have a:=zdv (ss:=ss) (p:=p) oM;obtain⟨x,y,z,rfl⟩:=zaQ a;obtain⟨L,-,-,d⟩:=zgv a;obtain⟨-,-,-,⟨b,c⟩,-⟩:=d.holds h;exact⟨x,y,z,rfl,b,c.symm⟩
theorem chain_three (h:(vcT ss p).code≠3):∃ x y z,ss=[x,y,z]:=zaQ (zdv h)
theorem vcT_asmB (ss:List Sys) (p:Aut):(zj (vcT ss p).fst=true∨(vcT ss p).fst=noA)∧(zj (vcT ss p).snd=true∨(vcT ss p).snd=noA):=by
 by_cases h:(vcT ss p).code=0
 ·obtain⟨x,y,z,rfl,-,a⟩:=chain_second h;refine⟨.inl ?_,?_⟩
  ·have b:=zdv (ss:=[x,y,z]) (p:=p) oM;obtain⟨L,-,-,c⟩:=zgv b;exact (c.holds h).1
  ·rw [← a];exact vpT_asm y z _
 ·exact⟨.inr (vcT_noneL h).1,.inr (vcT_noneL h).2⟩
section
open Go.ChangeShapes Go.WideShapes Go.ChangeAt Go.Deep
def BytesAt (w:World) (A:Option Addr) (n c:Nat):Prop:=Bytes w A n∧n<=9223372036854775807∧n<=c∧c<=9223372036854775807
theorem arg_bytes {H:Type} {enc:TypeId × Value->H}  {spare:Nat->Bool} {held:Bool} {r:Reach} {b0:Nat} {v:Value} {d:DataW H} {p:List MemPlace}(hv:Value.okWide Tryz.prog w r b0 62 v)(h:DataW.Trod enc Tryz.prog w 0 spare held 62 v d p) :
  ∃ (A:Option Addr) (n c:Nat),v=.slice A n c∧BytesAt w A n c:=by
 obtain⟨a,l,k,rfl⟩:=okWide_slice Tryz.underlying62 hv;obtain⟨t,E⟩:=h;rcases open_slice1 Tryz.underlying62 kM E with ⟨f,_⟩|⟨s,J,z,m,n,V,D,L,f,Q,F,I,q,_,hx⟩
 ·simp [Value.cells] at f;obtain⟨rfl,rfl,rfl⟩:=f;exact⟨_,_,_,rfl,fun h=>absurd h oM,oM,Nat.le_refl _,oM⟩
 ·simp [Value.cells] at f;obtain⟨rfl,rfl,rfl⟩:=f;unfold maxLen at I;have G:l<=m:=by rw [q];split<;>omega
  refine⟨_,_,_,rfl,fun hn=>?_,oM,F,oM⟩;have u:=(hx 0 oM).1;have y:=zdV u;have g:=World.block_lt_of_cell? w _ u;rw [ziE] at g;refine⟨s.block,s.off,by rw [← y],g,fun j hj=>?_⟩;obtain⟨x,B⟩:=hx j oM;obtain⟨b,i,_,o⟩:=DataW.trod_int Tryz.underlying5 B;have C:V j=.int .u8 b:=by simpa using i
  rw [C,y,zS] at x;have R:0<=b∧b<256:=by
   simp only [Lit.wf,dH,decide_eq_true_eq] at o;have M:IntKind.u8.min=0:=rfl;have O:IntKind.u8.max=255:=rfl;omega
  refine⟨b.toNat,oM,?_⟩;rw [x];have:((b.toNat:Nat):Int)=b:=oM;rw [this]
end
theorem sl_threeA {g lo hi lo2 hi2 lo3 hi3 e:Nat}  {x y z:Sys}(hb:Blk W g 38 #[x.al,x.st,.slice A n c,y.al,y.st,.slice B m d,z.al,z.st,.slice C k e])
  (h:zZ W lo hi A n x) (h':zZ W lo2 hi2 B m y) (h3:zZ W lo3 hi3 C k z) (l1:hi<=W.heap.size) (l2:hi2<=W.heap.size) (l3:hi3<=W.heap.size):zep W 0 W.heap.size (some ⟨g,0,none⟩) 3 [x,y,z]:=by
 have a:=hb.lt;refine⟨rfl,[.int .i64 x.al,.int .i64 x.st,.slice A n c,.int .i64 y.al,.int .i64 y.st,.slice B m d,.int .i64 z.al,.int .i64 z.st,.slice C k e],⟨rfl,oM,fun _=>⟨_,rfl,dG _,by dsimp only;omega,fun j u hu=>?_⟩⟩,fun j u hu=>?_⟩
 ·rw [zS,Nat.zero_add,hb.cell];simpa using hu
 ·match j with
  |0 =>
   simp at hu;subst hu;exact⟨A,n,c,rfl,rfl,rfl,h.1,h.2.more (dG _) oM⟩
  |1 =>
   simp at hu;subst hu;exact⟨B,m,d,rfl,rfl,rfl,h'.1,h'.2.more (dG _) oM⟩
  |2 =>
   simp at hu;subst hu;exact⟨C,k,e,rfl,rfl,rfl,h3.1,h3.2.more (dG _) oM⟩
  |j+3=>simp at hu
theorem sys_nil (W:World) (al st:Int):zZ W 0 0 none 0 ⟨al,st,[]⟩:=⟨rfl,rfl,oM,fun h=>absurd h oM⟩
theorem spec_l12Any (h:Rd w R M)(hM:M<=400000000) :
  Calls Tryz.prog 96 #[.pointer (some R)] w (RetSTP R (M+200100) 30003 89 w):=by
 have au:=h.lt
 go_enter Tryz.func96,Tryz.ntmps96
 go_upto_region 1 with fail
 generalize U0:((w.alloc _).alloc _).alloc _=w0 at *;obtain⟨ai,r,u,y⟩:=Ext.x3_ U0;have a3:w0.heap.size=w.heap.size+3:=by rw [← U0];simp
 clear U0;go_upto_region 2 with (first
  |(go_at_call 110;refine (spec_l12Draw (h.ext ai) oM).mono ?_;rintro e w1 ⟨s,A,n,c,t,C,k,c2,p,B,m,d,B',m',d',rfl,ht⟩))
 obtain⟨w2,U0⟩:∃ x,Hid (((w1.alloc (.cells #[s.al,s.st,.slice A n c] 38)).alloc (.cells #[t.al,t.st,.slice C k c2] 38)).alloc (.cells #[p.al,.slice B m d,.slice B' m' d'] 31)=x):=⟨_,za rfl⟩;have H:Ext w1 w2:=((((dB _).alloc _).alloc _).alloc _).trans (fQ U0.out);obtain⟨b1,z,I⟩:=zL (fQ U0.out);have a4:=ht.dr.size;have zz:=za (And.intro ((r.dr ht.dr oM).ext H) (And.intro ((u.dr ht.dr oM).ext H) ((y.dr ht.dr oM).ext H)));have V:=(ht.less ai.dr au).ext H;have aF:w2.heap.size=w1.heap.size+3:=by rw [← U0.out];simp
 have aC:w.heap.size+3<=w1.heap.size:=oM;clear ht H r u y ai;generalize hG:w1.heap.size=G at *;rw [U0.out] at *;clear hG;have cS:=b1.cell;have cT:=z.cell;have cP:=I.cell;have HS:=za (spec_l9Spoil V.own oM oM oM);go_wp2_with fail
 refine HS.out.mono ?_;rintro e w7 ⟨j,J,n7,Q,l,O,Y,S,p7,L,Z,U,b,g,f,rfl,ah⟩;have a2:=V.rd.lt;have o:=ah.dr;have i:=ah.less V.dr au;replace b1:=b1.dr o oM;replace z:=z.dr o oM;replace I:=I.dr o oM;obtain⟨r,u,y⟩:=zz.out;replace zz:=za (And.intro (r.dr o oM) (And.intro (u.dr o oM) (y.dr o oM)));clear V ah o r u y HS cS cT cP;have cS:=b1.cell;have fS:=b1.frozen;have cT:=z.cell;have fT:=z.frozen;have cP:=I.cell;have fP:=I.frozen;go_upto_region 3 with fail
 have a:=zab w7 G (.int .i64 j.al) (.int .i64 j.st) (.slice J n7 Q);have D:=zao b1 rfl (.int .i64 j.al) (.int .i64 j.st) (.slice J n7 Q);replace i:=i.far b1 a oM dM dM;replace z:=z.frm a oM;replace I:=I.frm a oM;obtain⟨r,u,y⟩:=zz.out;replace r:=r.frm a oM;replace u:=u.frm a oM;replace y:=y.frm a oM;clear zz a b1 cS fS cT fT cP fP;generalize ((w7.setCell G j.al).setCell ⟨G,1,none⟩ j.st).setCell ⟨G,2,none⟩ (.slice J n7 Q)=w8 at *;have a:=zab w8 (G+1+1) (.int .i64 p7.al) (.slice L Z U) (.slice b g f);have q3:=zao I rfl (.int .i64 p7.al) (.slice L Z U) (.slice b g f);replace i:=i.far I a oM dM dM;replace z:=z.frm a oM;replace D:=D.frm a oM;replace r:=r.frm a oM;replace u:=u.frm a oM;replace y:=y.frm a oM;clear a I;generalize ((w8.setCell ⟨G+1+1,0,none⟩ p7.al).setCell ⟨G+1+1,1,none⟩ (.slice L Z U)).setCell ⟨G+1+1,2,none⟩ (.slice b g f)=w9 at *;have a:=zab w9 (G+1) (.int .i64 l.al) (.int .i64 l.st) (.slice O Y S);have q2:=zao z rfl (.int .i64 l.al) (.int .i64 l.st) (.slice O Y S);replace i:=i.far z a oM dM dM;replace D:=D.frm a oM;replace q3:=q3.frm a oM;replace r:=r.frm a oM;replace u:=u.frm a oM;replace y:=y.frm a oM;clear a z;generalize ((w9.setCell ⟨G+1,0,none⟩ l.al).setCell ⟨G+1,1,none⟩ l.st).setCell ⟨G+1,2,none⟩ (.slice O Y S)=E at *;have F:Hid (w.heap.size+3<=G):=za aC;have cS:∀ W,Frm (fun k=>k=w.heap.size∨k=w.heap.size+1) E W->∀ q,W.cell? ⟨G,q,none⟩=#[Value.int .i64 j.al,.int .i64 j.st,.slice J n7 Q][q]?:=fun W hW=>(D.frm hW (oH F.out)).cell;have cT:∀ W,Frm (fun k=>k=w.heap.size∨k=w.heap.size+1) E W->∀ q,W.cell? ⟨G+1,q,none⟩=#[Value.int .i64 l.al,.int .i64 l.st,.slice O Y S][q]?:=fun W hW=>(q2.frm hW (oH F.out)).cell;have cP:∀ W,Frm (fun k=>k=w.heap.size∨k=w.heap.size+1) E W->∀ q,W.cell? ⟨G+1+1,q,none⟩=#[Value.int .i64 p7.al,.slice L Z U,.slice b g f][q]?:=fun W hW=>(q3.frm hW (oH F.out)).cell;have av:Frm (fun k=>k=w.heap.size∨k=w.heap.size+1) E E.drew:=(dB E).drew.aj;have ha:=i.ext (dB E).drew;have zs:=r.ext (dB E).drew;have zt:=u.ext (dB E).drew;have zp:=y.ext (dB E).drew;clear D q2 q3 r u y i;go_wp2_with fail
 refine tR (fun X=>Frm (fun k=>k=w.heap.size∨k=w.heap.size+1) E X) [5] (Ord.of [0,1,2,3,4,5]) ?_;refine tQ ?_;generalize hwD:E.drew=wD at *;clear hwD;have cs:=zs.cell;have fs:=zs.frozen;refine zD fun K hK=>?_;go_simp;have D:=zao zs rfl (.int .i64 j.al) (.int .i64 j.st) (.slice J n7 Q);have a:=zab wD w.heap.size (.int .i64 j.al) (.int .i64 j.st) (.slice J n7 Q);replace ha:=ha.far zs a oM dM dM;replace zt:=zt.frm a oM;replace zp:=zp.frm a oM;have ag:=av.trans (a.mono (T:=fun k=>k=w.heap.size∨k=w.heap.size+1) (fun k _ hk=>.inl hk));refine hK.out _ _ ag ?_;refine pT ?_;clear cs fs zs a;generalize ((wD.setCell w.heap.size j.al).setCell ⟨w.heap.size,1,none⟩ j.st).setCell ⟨w.heap.size,2,none⟩ (.slice J n7 Q)=wA at *;have ct:=zt.cell;have ft:=zt.frozen;refine zD fun K hK=>?_;go_simp;have q2:=zao zt rfl (.int .i64 l.al) (.int .i64 l.st) (.slice O Y S);have e2:=zab wA (w.heap.size+1) (.int .i64 l.al) (.int .i64 l.st) (.slice O Y S);replace ha:=ha.far zt e2 oM dM dM;replace zp:=zp.frm e2 oM;replace D:=D.frm e2 oM;have aw:=ag.trans (e2.mono (T:=fun k=>k=w.heap.size∨k=w.heap.size+1) (fun k _ hk=>.inr hk));refine hK.out _ _ aw ?_;refine pT ?_;clear ct ft zt e2 ag;generalize ((wA.setCell ⟨w.heap.size+1,0,none⟩ l.al).setCell ⟨w.heap.size+1,1,none⟩ l.st).setCell ⟨w.heap.size+1,2,none⟩ (.slice O Y S)=wB at *;have cp:=zp.cell;have fp:=zp.frozen;refine zP fun K hK=>?_;go_simp;have q3:=zao zp rfl (.int .i64 p7.al) (.slice L Z U) (.slice b g f);have e3:=zab wB (w.heap.size+1+1) (.int .i64 p7.al) (.slice L Z U) (.slice b g f);replace ha:=ha.far zp e3 oM dM dM;replace D:=D.frm e3 oM;replace q2:=q2.frm e3 oM;refine hK.out _ _ ?_;refine zag ?_;clear cp fp zp e3 aw av cS cT cP;generalize ((wB.setCell ⟨w.heap.size+1+1,0,none⟩ p7.al).setCell ⟨w.heap.size+1+1,1,none⟩ (.slice L Z U)).setCell ⟨w.heap.size+1+1,2,none⟩ (.slice b g f)=wC at *;have aD:=za ha;clear ha;go_wp2_with fail
 have c1:=D.cell;have aB:=q2.cell;have c3:=q3.cell;exact bodyPost_ret (v:=.tuple #[.agg #[j.al,j.st,.slice J n7 Q],.agg #[l.al,l.st,.slice O Y S],.agg #[p7.al,.slice L Z U,.slice b g f]]) (by simp [results,Tryz.results96,go_sem,c1,aB,c3]) rfl ⟨j,J,n7,Q,l,O,Y,S,p7,L,Z,U,b,g,f,rfl,aD.out⟩
def RetD3 (w:World) (e:Ending) (w':World):Prop:=
 ∃ (s:Sys) (A:Option Addr) (n c:Nat) (t:Sys) (C:Option Addr) (k c2:Nat) (p:Aut) (B:Option Addr) (m d:Nat) (B':Option Addr) (m' d':Nat),
  e=.returned (.tuple #[.agg #[s.al,s.st,.slice A n c],.agg #[t.al,t.st,.slice C k c2],.agg #[p.al,.slice B m d,.slice B' m' d']]) ∧
  (zZ w' w.heap.size w'.heap.size A n s∧zZ w' w.heap.size w'.heap.size C k t∧zH w' w.heap.size w'.heap.size B m B' m' p) ∧
  Hid ((n<=100000∧n<=c)∧(k<=100000∧k<=c2))∧Ext w w'
theorem draw_d3 {L K c2 m' d':Nat} {s t:Sys}  {B':Option Addr} {w1 W':World} {S:Nat->Prop}(hx:Ext w w1)(hR:w.heap.size<=R)(hT:zcl w1 W R M L K s A n c t C k c2 p B m d B' m' d')
  (hF:Frm S W W') (hS:∀ k,S k->w.heap.size<=k∧k<R) (hL:L<=100000) :
  RetD3 w (.returned (.tuple #[.agg #[s.al,s.st,.slice A n c],.agg #[t.al,t.st,.slice C k c2],.agg #[p.al,.slice B m d,.slice B' m' d']])) W':=by
 have a:Ext w W:=Dr.new hx hR hT.dr;have f:=hT.is.frm hF (fun k hk h1=>by have:=hS k hk;omega);have g:=hT.it.frm hF (fun k hk h1=>by have:=hS k hk;omega);have h:=hT.ip.keep hF (fun k h1 hk=>by have:=hS k hk;omega);have b:=hT.ns;exact⟨s,A,n,c,t,C,k,c2,p,B,m,d,B',m',d',rfl,⟨f.new hR,g.new hR,h.at_new oM⟩,za oM,a.frm hF (fun k hk hk2=>by have:=hS k hk2;omega)⟩
theorem spec_DrawVerifyPair {A0:Option Addr} {n0 c0:Nat} (h:Bytes w A0 n0)(hn:n0<=9223372036854775807)(hc:n0<=c0)(hc2:c0<=9223372036854775807) :
  Calls Tryz.prog 42 #[.slice A0 n0 c0] w (RetD3 w):=by
 obtain⟨L,U0⟩:∃ x,Hid (((w.alloc (.cells #[(0:Int),(0:Int),()] 38)).alloc (.cells #[(0:Int),(0:Int),()] 38)).alloc (.cells #[(0:Int),(),()] 31)=x):=⟨_,za rfl⟩;have f:Ext w L:=((((dB _).alloc _).alloc _).alloc _).trans (fQ U0.out);obtain⟨g,i,j⟩:=zL (fQ U0.out);have Y:L.heap.size=w.heap.size+3:=by rw [← U0.out];simp
 have X:=za (h.ext f);clear h
 go_enter Tryz.func42,Tryz.ntmps42
 go_wp2_with fail
 rw [U0.out] at *;refine (zgV X.out hn hc hc2).mono ?_;rintro e w1 ⟨R,rfl,hR,l,a⟩;have b:=f.trans a;have V:=l.lt;go_wp2_with fail
 refine (spec_l12Any l oM).mono ?_;rintro e F ⟨s,A,n,c,t,C,k,o,p,B,m,d,z,E,D,rfl,y⟩;replace g:=(g.ext a).dr y.dr oM;replace i:=(i.ext a).dr y.dr oM;replace j:=(j.ext a).dr y.dr oM;have c1:=g.cell;have f1:=g.frozen;have U:=i.cell;have f2:=i.frozen;have c3:=j.cell;have f3:=j.frozen;have q:=zab F w.heap.size (.int .i64 s.al) (.int .i64 s.st) (.slice A n c);have r:=zab (((F.setCell w.heap.size s.al).setCell ⟨w.heap.size,1,none⟩ s.st).setCell ⟨w.heap.size,2,none⟩ (.slice A n c)) (w.heap.size+1) (.int .i64 t.al) (.int .i64 t.st) (.slice C k o);have u:=zab ((((((F.setCell w.heap.size s.al).setCell ⟨w.heap.size,1,none⟩ s.st).setCell ⟨w.heap.size,2,none⟩ (.slice A n c)).setCell ⟨w.heap.size+1,0,none⟩ t.al).setCell ⟨w.heap.size+1,1,none⟩ t.st).setCell ⟨w.heap.size+1,2,none⟩ (.slice C k o)) (w.heap.size+1+1) (.int .i64 p.al) (.slice B m d) (.slice z E D);have H:=((zao g rfl (.int .i64 s.al) (.int .i64 s.st) (.slice A n c)).frm r oM).frm u oM;have I:=(zao (i.frm q oM) rfl (.int .i64 t.al) (.int .i64 t.st) (.slice C k o)).frm u oM;have J:=zao ((j.frm q oM).frm r oM) rfl (.int .i64 p.al) (.slice B m d) (.slice z E D);have G:=((q.mono (T:=fun k=>k=w.heap.size∨k=w.heap.size+1∨k=w.heap.size+1+1) (fun k _ hk=>.inl hk)).trans (r.mono (T:=fun k=>k=w.heap.size∨k=w.heap.size+1∨k=w.heap.size+1+1) (fun k _ hk=>.inr (.inl hk)))).trans (u.mono (T:=fun k=>k=w.heap.size∨k=w.heap.size+1∨k=w.heap.size+1+1) (fun k _ hk=>.inr (.inr hk)));have M:=za (draw_d3 b oM y G (fun k hk=>oM) oM);have O:=za H;have Q:=za I;have S:=za J;clear q r u H I J G g i j f a b;go_wp2_with fail
 have Z:=O.out.cell;have r2:=Q.out.cell;have r3:=S.out.cell;exact bodyPost_ret (v:=.tuple #[.agg #[s.al,s.st,.slice A n c],.agg #[t.al,t.st,.slice C k o],.agg #[p.al,.slice B m d,.slice z E D]]) (by simp [results,Tryz.results42,go_sem,Z,r2,r3]) rfl M.out
def zey:Sys:=⟨0,1,[]⟩
theorem zgn:zk zey=true:=dM
theorem sil_runs (v:List Nat):ziC zey v:=by
 refine⟨0,?_⟩;have a:∀ (n:Nat) (v:List Nat),v.length=n->zbC (cho zey) [0] v 0:=by
  intro n
  induction n with
  |zero =>
   intro v hl;obtain rfl:=List.eq_nil_of_length_eq_zero hl;exact .nil sM
  |succ n ih =>
   intro v hl;rcases zae v with rfl|⟨w,l,rfl⟩
   ·simp at hl
   refine .snoc (ih w (by simpa using hl)) ?_;unfold cho zey;simp
 exact a _ v rfl
theorem sil_union (ss:List Sys):zC (ss++[zey])=zC ss:=by
 unfold zC;rw [List.foldl_append];simp [zey]
theorem zjm (h1:1<=ss.length)(h2:ss.length<=2):zaL (ss++[zey]) p=zaL ss p∧zT (ss++[zey]) p=zT ss p:=by
 have g:zA (ss++[zey])=zA ss:=by
  unfold zA;rw [List.length_append,List.all_append];have i:decide (1<=ss.length+[zey].length)=true:=sM;have j:decide (ss.length+[zey].length<=3)=true:=by simp;omega
  have k:decide (1<=ss.length)=true:=by simpa using h1
  have l:decide (ss.length<=3)=true:=by simp;omega
  rw [i,j,k,l];simp [zgn]
 cases hp:zaF ss p
 ·have d:zaF (ss++[zey]) p=false:=by unfold zaF at hp ⊢;rw [g];exact hp
  unfold zaL zT;rw [hp,d];exact⟨rfl,rfl⟩
 ·have d:zaF (ss++[zey]) p=true:=by unfold zaF at hp ⊢;rw [g];exact hp
  have c:=hp;unfold zaF at c;simp only [dH] at c;obtain⟨m,n⟩:=zjc (ss:=ss++[zey]) (ts:=ss) (a:=free) (b:=free) (p:=p) (r:=p) (zV (by rw [g];exact c.1)).2 (zV c.1).2 zbG zbG c.2 c.2 (by rw [sil_union])
   (fun v _=>by
    rw [zdk,zdk];exact and_congr_left fun _=>⟨fun h s hs'=>h s (List.mem_append_left _ hs'),fun h s hs'=>by
     rcases List.mem_append.1 hs' with f | f
     ·exact h s f
     ·obtain rfl:=List.mem_singleton.1 f;exact sil_runs v⟩)
  unfold zaL zT;rw [hp,d,m,n];exact⟨rfl,rfl⟩
section
variable {s t:Sys} {p a:Aut} {L:Nat}
theorem vpT_sil (ht:zk t=true)(ha:zj a=true):(vpT t zey a).code=(if zaL [t] a=true then 1 else 0)∧(zaL [t] a=true->(vpT t zey a).tr=zT [t] a):=by
 have G:iface t a zey=((0:Nat):Int):=by
  rw [zbz ht ha zgn];simp [zey]
 have f:=vpT_ok G;have M:(vpT t zey a).code≠2:=by
  rw [zfg G];have I:∀ rows,zaK 0 (zo t a 0) rows [⟨#[]⟩]=none:=by
   intro rows;unfold zaK candL;rw [List.find?_eq_none];intro x hx;obtain⟨r,-,R⟩:=List.mem_flatMap.1 hx;simp [letters] at R
  have s:zaa 0 (zo t a 0) [⟨#[]⟩] 11 [⟨#[]⟩]=some [⟨#[]⟩]:=zbX 11 (I _);rw [s,Option.map_some,runT];have O:=zck.first 0 (zo t a 0)
  have k:=zaP O (I _) oM;have D:∀ v,Over 0 v->False∨v=[]:=by
   intro v j;cases v with
   |nil=>exact .inr rfl
   |cons l r=>have:=(j l sM).2;simp at this
  split
  ·show (0:Int)≠2;decide
  ·split
   ·show (1:Int)≠2;decide
   ·exfalso;rename_i j0 j1;unfold zaU at j0 j1
    split at j0
    ·rename_i hu;unfold zbP at hu;simp only [dH] at hu;have o:zC [t]|||(zcA 0 (zo t a 0) [⟨#[]⟩] [⟨#[]⟩]).al.toNat=t.al.toNat:=by simp [zC,zcA]
     rcases zel (ss:=[t]) (by simpa using ht) k ha with ⟨-,v,-,c,⟨B,i,C⟩,-⟩|⟨Q,-,-⟩
     ·rw [o] at c;have y:∀ (v:List Nat),(∀ l∈v,l<6)->zbf (zcA 0 (zo t a 0) [⟨#[]⟩] [⟨#[]⟩]) 0 v=0:=by
       intro v j;have:=zex k j (q:=0) (by simp [zcA]);have e:(zcA 0 (zo t a 0) [⟨#[]⟩] [⟨#[]⟩]).next.length=1:=by simp [zcA]
       omega
      rw [y v (fun l hl=>(c l hl).1)] at i;have u:zo t a 0 ⟨#[]⟩=true:=by
       unfold zcz zcA at i;simpa using i
      obtain⟨-,g⟩:=zee.1 u;refine g 0 (dG _) ((bad_iff sM).2 ⟨v,fun l hl=>⟨(c l hl).1,.inl (c l hl).2⟩,?_,B t sM,C⟩);rw [List.take_zero,List.filter_eq_nil_iff];intro l _;simp
     ·rw [Q] at hu;cases hu.2
    ·rename_i hu;rw [if_neg hu] at j1
     split at j0
     ·rename_i hb;rw [if_pos hb] at j1;obtain⟨v,j,F,⟨-,b⟩,-⟩:=ziF hb;have z:zC [zey]=0:=by simp [zC,zey]
      rw [z] at F;rcases D v F with h|rfl
      ·exact h
      ·rw [j] at j0 j1;have J:zaB (wstr []) 0=⟨#[]⟩:=rfl;rw [J] at j0 j1;have u:zo t a 0 ⟨#[]⟩=false:=by
        unfold zcz zcA zbf at b;simpa using b
       rw [u] at j1;exact j1 rfl
     ·exact j0 rfl
 have H:zaV [t,zey] a=!zaL [t] a:=by
  rw [zcE,show zaF [t,zey] a=true by unfold zaF;rw [ha,zdG sM sM (by simp [ht,zgn])];rfl];have:=(zjm (ss:=[t]) (p:=a) sM sM).1;rw [show [t]++[zey]=[t,zey] from rfl] at this;rw [this];rfl
 rcases f.code with n|E|h
 ·obtain⟨-,-,-,-,-⟩:=f.holds n;have d:=zgQ (vpT_fault n);rw [H] at d;cases hb:zaL [t] a
  ·exact⟨by rw [n];rfl,(fun h=>by cases h)⟩
  ·rw [hb] at d;cases d
 ·obtain⟨m,L⟩:=f.fails E;rw [H] at m;cases hb:zaL [t] a
  ·rw [hb] at m;cases m
  ·have:=(zjm (ss:=[t]) (p:=a) sM sM).2;exact⟨by rw [E];rfl,fun _=>by rw [L];exact this⟩
 ·exact absurd h M
theorem judge_sil (ht:zk t=true)(ha:zj a=true):(zaO s t zey p L a).1=(zaU s p t L a).1∧(zaO s t zey p L a).2.1=(zaU s p t L a).2:=by
 obtain⟨b,c⟩:=vpT_sil ht ha;unfold zaO zaU;split
 ·exact⟨rfl,rfl⟩
 ·cases hb:zaL [t] a
  ·rw [hb,if_neg dM] at b;rw [if_pos b,if_neg dM];exact⟨rfl,rfl⟩
  ·rw [hb,if_pos rfl] at b;rw [if_neg (by rw [b];decide),if_neg (by rw [b];decide),if_pos rfl,c hb];exact⟨rfl,rfl⟩
theorem run_sil (ht:zk t=true)(h64:L<64):∀ (g k:Nat) (o:Option (List ByteArray × List ByteArray)),LnOk L (zo s p L) k o ->
  (chT s t zey p L g k o).code=(runT s t p L g k o).code∧(chT s t zey p L g k o).tr=(runT s t p L g k o).tr∧(chT s t zey p L g k o).ro=(runT s t p L g k o).ro∧(chT s t zey p L g k o).fst=(runT s t p L g k o).asm:=by
 have l:zT [s,t,zey] p=zT [s,t] p:=(zjm (ss:=[s,t]) (p:=p) sM sM).2;intro g
 induction g with
 |zero=>intro k o _;rw [chT,runT];exact⟨rfl,rfl,rfl,rfl⟩
 |succ g ih =>
  intro k o ho;cases o with
  |none=>rw [chT,runT];exact⟨rfl,rfl,rfl,rfl⟩
  |some tab =>
   obtain⟨d,c⟩:=tab;obtain⟨i,b⟩:=ho.tab d c rfl;have j:=zaP i b h64;obtain⟨f,h⟩:=judge_sil (s:=s) (t:=t) (p:=p) (L:=L) ht j;rw [chT,runT];dsimp only;rw [f,h];split
   ·exact⟨rfl,rfl,rfl,rfl⟩
   ·have a:(zaU s p t L (zcA L (zo s p L) d c)).2≠2:=by
     unfold zaU;split
     ·show (-1:Int)≠2;decide
     ·split
      ·split
       ·show (-1:Int)≠2;decide
       ·show (1:Int)≠2;decide
      ·show (0:Int)≠2;decide
    rw [if_neg a];split
    ·exact⟨rfl,l,rfl,rfl⟩
    ·exact ih _ _ (ho.aq _)
theorem chain_silent (h:(vpT s t p).code≠3):(vcT [s,t,zey] p).code=(vpT s t p).code∧(vcT [s,t,zey] p).tr=(vpT s t p).tr∧(vcT [s,t,zey] p).ro=(vpT s t p).ro∧(vcT [s,t,zey] p).fst=(vpT s t p).asm:=by
 rcases zby s t p with a|⟨L,a⟩
 ·rw [zff a] at h;exact absurd rfl h
 ·obtain⟨c,d,b⟩:=zbp (s:=s) (p:=p) (t:=t) oM;have g:three [s,t,zey] p=true:=zcT.2 ⟨rfl,zdG sM sM (by simp [c,b,zgn]),d⟩;obtain⟨f,-⟩:=zfW g;have i:zay [s,t,zey] p=(L:Int):=by
   rw [f,← a,zbz c d b];simp [zey]
  rw [zfg a];unfold vcT;dsimp only;rw [i,if_pos oM,Int.toNat_natCast];exact run_sil b (zjy a) 12 0 _ (LnOk.start _ _)
end
end Go.Proofs.YtcfchopfijalpaaGreatDoor
