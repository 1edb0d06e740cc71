/- spec.l3Rando -/
import Derived.Test.YtcfchopfijalpaaGreatDoorA13
import Derived.Laws.StructEq
set_option maxHeartbeats 4000000
set_option maxRecDepth 100000
namespace Go.Proofs.YtcfchopfijalpaaGreatDoor
open Go Go.RowKit
open Blk renaming new->eP
open Ext renaming al_->iQ,bl_->eI,refl->dB
open Frm renaming ae->fV,setCell->dF
open List renaming getElem?_append_left->eB,getElem?_eq_getElem->dE,getElem?_set_ne->gK,getElem?_set_self->fI,length_set->fN,mem_of_getElem?->dC,mem_or_eq_of_mem_set->fH,nil_append->eX
open Nat renaming le_refl->dD,le_trans->eA,zero_add->eJ,zero_le->dG
open Reads renaming af->eN
variable {A A':Option Addr} {G L M N R Z a c c' g i n n' p:Nat} {W w w' w0 w1:World} {acc:List Bool} {al st x:Int} {b:Aut} {cs us:Array Value} {es:List Edg} {l:List Int} {ls:List (List Int)} {s:ByteArray} {v v':Value}
def shA (al p k:Nat) (a:Aut):Prop:=a.al=al∧a.next.length=p∧a.acc.length=p∧∀ l∈a.next,l.length=k
theorem zgq (h:Rd w R M)(hM:M<=900000000)(ha:a<64)(hp:p<=16) :
  Calls Tryz.prog 259 #[.pointer (some R),a,p] w (zha R (M+400) (shA a p (letters a 6).length) w):=by
 have aj:Sm a:=tM;have hRl:=h.lt
 go_enter Tryz.func259,Tryz.ntmps259
 have hxz:=(dB w).alloc (.cells #[(0:Int),(),()] 31);have bz:=eP w 31 #[(0:Int),(),()];obtain⟨w2,U0⟩:∃ x,Hid ((w.alloc (.cells #[(0:Int),(),()] 31)).alloc (.cells #[a,(),()] 31)=x):=⟨_,za rfl⟩;have Q:=(dB (w.alloc (.cells #[(0:Int),(),()] 31))).alloc (.cells #[a,(),()] 31);have bG:=eI U0.out;have al:=bz.lt;have ak:(w.alloc (.cells #[(0:Int),(),()] 31)).heap.size=w.heap.size+1:=sM;rw [ak] at bG;go_upto_region 2 with fail
 rw [U0.out] at *;generalize w.alloc _=w1 at *;go_wp2_with fail
 refine (zaj a aj _).mono ?_;rintro e w3 ⟨B,d,rfl,-,F⟩;have zkc:zbT w1 w3 R (w.heap.size+1) M a (.slice none 0 0) [] [] (.slice none 0 0) []:=⟨bG.ext F,World.ownsRow_nil _ _ _ _,zE.nil _ _,World.ownsRow_nil _ _ _ _,h.ext ((hxz.trans Q).trans F),(Q.trans F).dr,oM,oM⟩;have ax:=zF a 6;clear bG F Q;generalize (letters a 6).length=k at *;go_wp2_with fail
 go_loopw [9] (fun iv wr=>∃ (i:Nat) (v:Value) (f:List Value) (G:List (List Int)) (Z:Value) (o:List Bool),i<=p∧iv=.int .i64 (i:Nat)∧zbT w1 wr R (w.heap.size+1) (M+i*20) a v f G Z o∧G.length=i∧o.length=i∧Hid (∀ l∈G,l.length=k)) (fun iv _=>p - (intOf iv).toNat)
 case atStart=>exact⟨0,_,[],[],_,[],dG _,rfl,zkc,rfl,rfl,za (fun l hl=>by simp at hl)⟩
 case round =>
  clear zkc;obtain⟨i,v,f,G,Z,o,hi,rfl,zkc,t,E,S⟩:=hrel
  by_cases hip:i<p
  ·have u:=za zkc.low;have hK:=za (show w1.heap.size<=wr.heap.size from zkc.dr.size);have h0:=World.ownsRow_made (base:=wr.heap.size) (e:=3) (size:=1) wr #[] 0 (dD _) (dG _) rfl;have O:=(dB wr).alloc (.cells #[] 3);have g:=zkc.ext O;go_upto_region 7 with fail
   clear zkc;obtain⟨H,Y⟩:∃ H,H=wr:=⟨_,rfl⟩;rw [← Y] at h0 u hK g O ⊢;clear Y;generalize H.alloc _=w4 at *;go_wp2_with fail
   go_loopw [10,11] (fun rv jv wr=>∃ (j:Nat) (l:List Int),j<=k∧jv=.int .i64 (j:Nat)∧zbT w1 wr R (w.heap.size+1) (M+i*20+j) a v f G Z o∧l.length=j∧wr.ownsRow H.heap.size 3 1 rv j (ints l)∧Hid (H.heap.size<=wr.heap.size)) (fun _ jv _=>k - (intOf jv).toNat)
   case atStart=>exact⟨0,[],dG _,rfl,g,rfl,h0,za O.size⟩
   case round =>
    clear g h0;obtain⟨j,l,hj,rfl,zkc,s,c,ai⟩:=hrel
    by_cases hjk:j<k
    ·obtain⟨AR,cR,rfl⟩:=zi c;go_wp2_with fail
     refine (zB zkc.rd oM).mono ?_;rintro e w5 ⟨y,rfl,-,-,ag,J⟩;have I:=zkc.drawn J ag;have D:=zaJ c J (fun b h1 e=>by have:=zkc.dr.size;have:=zkc.hR;have:=hK.out;omega);have V:H.heap.size<=w5.heap.size:=eA ai.out J.size;have L:=za s;clear s zkc c;go_wp2_with (at_builtin;refine zad H w5 rfl _ _ _ rfl 3 _ 1 8 Tryz.underlying128 zaf rfl dM (.slice AR j cR) j (ints l) _ _ rfl rfl V D rfl (by simp [Value.oneCell']) lM oM ?_;intro g5 cap5 w6 hown6 hg6 hat6 hlt6)
     go_roundw
     case rel=>exact⟨j+1,l++[(y:Int)],oM,gM,(I.side u.out hK.out D hg6).more oM,by simp [L.out],by simpa [ints] using hown6,za (eA V hg6.size)⟩
     case measure=>simp [intOf];omega
    ·obtain rfl:j=k:=oM;obtain⟨AR,cR,rfl⟩:=zi c;have cG:=zkc.blk.cell;have ah:=zkc.dr.size;have C:wr.ownsRow H.heap.size 3 1 (.slice AR j cR) l.length (ints l):=by rw [s];exact c
     go_upto_region 12 with (at_builtin;refine zad w1 wr rfl _ _ _ rfl 128 _ 1 24 Tryz.underlying25 zct rfl dM v G.length f _ _ rfl rfl ah zkc.nx rfl (zba _ _ _) lM oM ?_;intro g5 cap5 w6 hown6 hg6 hat6 hlt6;obtain⟨q1,q2,q3⟩:=zkc.ax u.out hK.out C hown6 hg6 hat6;have am:=q1.out)
     rw [t] at q3;clear q1 am q2 hown6 hg6 hat6 hlt6 c C cG zkc;have T:=za (show ∀ l'∈G++[l],l'.length=j from fun l' L=>by
      rcases List.mem_append.1 L with h1|h1
      ·exact S.out l' h1
      ·rw [List.mem_singleton.1 h1];exact s)
     have U:(G++[l]).length=i+1:=by simp [t]
     clear s t;generalize G++[l]=ay at *;generalize f++[.slice AR j cR]=an at *;generalize w6.setCell ⟨w.heap.size+1,1,none⟩ (.slice (some g5) (i+1) cap5)=w7 at *;generalize Value.slice (some g5) (i+1) cap5=v7 at *;have cG:∀ W,Dr R w7 W->∀ q,W.cell? ⟨w.heap.size+1,q,none⟩=#[Value.int .i64 a,v7,Z][q]?:=fun W hW=>(q3.blk.dr hW oM).cell;refine tR (fun X=>Dr R w7 X) [6,8] (Ord.of [0,1,2,3,4,5,6,7,8]) ?_;refine tQ ?_;refine zD fun K hK=>?_;go_simp;refine (zB (n:=3) (q3.rd.ext ((dB _).drew)) oM).mono ?_;rintro e w8 ⟨z,rfl,-,-,hr8,hd8⟩;have r:Dr R w7 w8:=((Dr.refl R w7).drew).trans hd8;have m:=q3.drawn r hr8;refine hK.out _ _ r ?_;refine pT ?_;refine tQ ?_;refine zD fun K hK=>?_;go_simp;refine hK.out _ _ (r.alloc _) ?_;refine pT ?_;refine zP fun K hK=>?_
     trace_state
     refine zaH w1 w8 _ _ _ rfl 4 _ 1 1 Tryz.underlying26 zbh rfl dM Z o.length (zah o) _ _ rfl rfl m.dr.size m.acc rfl (by simp [Value.oneCell']) lM oM ?_;intro g9 cap9 w9 hown9 hg9 hat9 hlt9;refine hK.out _ _ ?_;refine pT ?_;refine tQ ?_;obtain⟨p1,p2,p3⟩:=m.av (x:=decide (0<z)) (W':=w9) hown9 hg9 hat9;have aA:=p1.out;rw [E] at p3;refine zP fun K hK=>?_;go_simp;refine hK.out _ _ ?_;refine zag ?_;go_wp2_with fail
     go_roundw
     case rel=>exact⟨i+1,_,_,_,_,_,oM,gM,p3.more oM,U,by simp [E],T⟩
     case measure=>simp [intOf];omega
  ·obtain rfl:i=p:=oM;obtain⟨A5,c5,rfl⟩:=zi zkc.nx;obtain⟨B5,d5,rfl⟩:=zi zkc.acc;obtain⟨f1,f2⟩:=zkc.fin (N:=M+400) (sh:=shA a i k) hxz bz rfl hRl (dD _) al oM ⟨rfl,t,E,S.out⟩;rw [t,E] at f1 f2;have cG:=zkc.blk.cell;have bz5:=bz.dr zkc.dr oM;have cZ:=bz5.cell;have fZ:=bz5.frozen;go_wp2_with fail
   have cf:=f2.cell;exact bodyPost_ret (v:=.agg #[a,.slice A5 i c5,.slice B5 i d5]) (by simp [results,Tryz.results259,go_sem,cf]) rfl f1.out
section
variable {w0 W W':World} {R G M N:Nat} {al:Int} {v vA:Value} {rows:List Value} {ls:List (List Int)} {acc:List Bool}
theorem zbT.of {a:Aut}(ho:zN W w0.heap.size A n c A' n' c' a)(hr:Rd W R M)(hd:Dr R w0 W)(hR:R<w0.heap.size) :
  ∃ rows,zbT w0 (W.alloc (.cells #[a.al,.slice A n c,.slice A' n' c'] 31)) R W.heap.size M a.al (.slice A n c) rows a.next (.slice A' n' c') a.acc:=by
 obtain⟨⟨rows,h1,d⟩,h3,f,g⟩:=ho;have b:=(dB W).alloc (.cells #[a.al,.slice A n c,.slice A' n' c'] 31);refine⟨rows,eP W _ _,zh h1 b,d.keep b.aj (fun _ _=>id),?_,hr.ext b,hd.ext b,hR,hd.size⟩;rw [← g];exact zh f b
theorem zbT.setAcc {x:Bool}(h:zbT w0 W R G M al v rows ls (.slice (some g) n c) acc)(hn:n=acc.length) :
  zbT w0 (W.setCell ⟨g,i,none⟩ (.bool x)) R G M al v rows ls (.slice (some g) n c) (acc.set i x):=by
 subst hn;have a:=dF W g i (.bool x);have f:=(h.acc.lt g rfl).1;have d:=h.hR;have hst:=(h.acc.stored i (.bool x)).1;rw [show (zah acc).set i (.bool x)=zah (acc.set i x) by simp [zah,List.map_set]] at hst;refine⟨h.blk.frm a (fun e=>zq h.acc h.blk dM rfl e.symm),zf h.nx a (fun b hb hS=>?_),h.rows.frm a (fun i' r b hr hb hS=>?_),by simpa using hst,h.rd.frm a (fun k hk e=>oM),h.dr.ag (p:=⟨g,i,none⟩) f _,d,h.hG⟩
 ·subst hS;exact zaz h.nx h.acc dM hb rfl
 ·subst hS;obtain⟨l,_,j⟩:=h.rows.row hr;exact zaz j h.acc dM hb rfl
theorem zbT.setRow {k:Nat}  (h:zbT w0 W R G M al v rows ls vA acc)(hr:rows[i]?=some (.slice (some g) n c))(hl:ls[i]?=some l)(hn:n=l.length) :
  zbT w0 (W.setCell ⟨g,k,none⟩ x) R G M al v rows (ls.set i (l.set k x)) vA acc:=by
 subst hn;have a:=dF W g k (.int .i64 x);have d:=h.rows.2.1 i _ l hr hl;have o:=(d.lt g rfl).1;have f:=h.hR;have hst:=(d.stored k (.int .i64 x)).1;rw [show (ints l).set k (.int .i64 x)=ints (l.set k x) by simp [ints,List.map_set]] at hst;have m:Frm (Go.Proofs.YtcfchopfijalpaaGreatDoor.blk (some ⟨g,0,none⟩)) W (W.setCell ⟨g,k,none⟩ x):=a.mono (fun b _ hb=>⟨_,rfl,hb.symm⟩);refine⟨h.blk.frm a (fun e=>zq d h.blk dM rfl e.symm),?_,?_,zf h.acc a (fun b hb hS=>?_),h.rd.frm a (fun k hk e=>oM),h.dr.ag (p:=⟨g,k,none⟩) o _,f,h.hG⟩
 ·rw [fN];exact zf h.nx a (fun b hb hS=>by subst hS;exact zaz h.nx d dM hb rfl)
 ·have:=h.rows.ab (w':=W.setCell ⟨g,k,none⟩ x) (j:=i) (l:=l.set k x) (A:=some ⟨g,0,none⟩) (c:=c) (by simpa using hr) m (by simpa using hst);exact this
 ·subst hS;exact zaz h.acc d dM hb rfl
theorem zbT.row (h:zbT w0 W R G M al (.slice (some g) n c) rows ls vA acc)(hl:ls[i]?=some l)(hn:n=ls.length) :
  ∃ Ar cr,rows[i]?=some (.slice Ar l.length cr)∧W.cell? ⟨g,i,none⟩=some (.slice Ar l.length cr)∧W.ownsRow w0.heap.size 3 1 (.slice Ar l.length cr) l.length (ints l):=by
 subst hn;have f:i<ls.length:=(List.getElem?_eq_some_iff.1 hl).1;have b:i<rows.length:=by rw [h.rows.1];exact f
 have a:rows[i]?=some rows[i]:=dE b;have d:=h.rows.2.1 i _ l a hl;obtain⟨Ar,cr,e⟩:=zi d;rw [e] at a d;exact⟨Ar,cr,a,by rw [h.nx.cellAt i oM,a],d⟩
end
theorem zic (h:Rd w R M)(hM:M<=900000000)(ha:a<64)(hp0:1<=p)(hp:p<=16) :
  Calls Tryz.prog 258 #[.pointer (some R),a,p] w (zha R (M+400) (shA a p (letters a 6).length) w):=by
 have hRl:=h.lt
 go_enter Tryz.func258,Tryz.ntmps258
 go_wp2_with fail
 generalize U0:w.alloc _=w1 at *;have hxz:=iQ U0;have bz:=eI U0;have S:=bz.lt;clear U0;refine (zgq (h.ext hxz) hM ha hp).mono ?_;rintro e X ⟨b,A,n,c,A',n',c',rfl,zkb,hsh,D,z⟩;obtain⟨t,zkc⟩:=zbT.of zkb D z oM;obtain⟨s1,I,J,V⟩:=hsh.out;have F:n=b.next.length:=zkb.2.1;have s:n'=b.acc.length:=zkb.2.2.2;obtain⟨ad,u,ab⟩:=b;dsimp only at *;subst s1;rw [I] at F;rw [J] at s;replace F:=F.symm;replace s:=s.symm;subst F;subst s;have hG:=z.size;clear zkb D z hsh;have U:=za V;clear V;have aj:=zF a 6;generalize (letters a 6).length=k at *;obtain⟨O,rfl,ag,-⟩:=zQ (J ▸ zkc.acc) hp0;obtain⟨Q,rfl,ah,-⟩:=zQ (I ▸ zkc.nx) hp0;have T:=za I;have S3:=za J;clear I J;go_upto_region 2 with fail
 generalize X.alloc _=w3 at *;generalize X.heap.size=G at *;go_wp2_with fail
 go_loopw [8] (fun iv wr=>∃ (i:Nat) (q:List Bool),i<=p∧iv=.int .i64 (i:Nat)∧zbT w1 wr R G (M+400) a (.slice (some Q) p c) t u (.slice (some O) p c') q∧Hid (q.length=p)) (fun iv _=>p - (intOf iv).toNat)
 case atStart=>exact⟨0,_,dG _,rfl,zkc,S3⟩
 case round =>
  clear zkc;obtain⟨i,q,hi,rfl,zkc,hal⟩:=hrel
  by_cases hip:i<p
  ·have cG:=zkc.blk.cell;have H:=zkc.acc;rw [hal.out] at H;obtain⟨o0,c0⟩:=zaW H i oM;have f0:=H.frozenAt i;have o:=zkc.setAcc (i:=i) (x:=decide ((i:Int)<(p:Int) - 1)) hal.out.symm;clear H;go_wp2_with fail
   go_roundw
   case rel=>exact⟨i+1,_,oM,gM,o,za (by rw [fN];exact hal.out)⟩
   case measure=>simp [intOf];omega
  ·clear hi;have hp1:p - 1<u.length:=oH T.out;obtain⟨l0,d⟩:∃ l,u[p - 1]?=some l:=⟨_,dE hp1⟩;have f:=za (U.out l0 (dC d));have L:=za d;have ak:((p:Int) - 1).toNat=p - 1:=oM;clear d hp1;go_wp2_with fail
   go_loopw [9] (fun iv wr=>∃ (j:Nat) (E:List (List Int)) (l:List Int),j<=k∧iv=.int .i64 (j:Nat)∧zbT w1 wr R G (M+400) a (.slice (some Q) p c) t E (.slice (some O) p c') q∧Hid (E.length=p)∧Hid (∀ l∈E,l.length=k)∧Hid (E[p - 1]?=some l)) (fun iv _=>k - (intOf iv).toNat)
   case atStart=>exact⟨0,_,_,dG _,rfl,zkc,T,U,L⟩
   case round =>
    clear zkc f;obtain⟨j,E,l,hj,rfl,zkc,r,B,d⟩:=hrel;have f:=B.out l (dC d.out);obtain⟨Ar,cr,C,y,m⟩:=zkc.row d.out r.out.symm;have cG:=zkc.blk.cell;rw [f] at C y m;have Z:=za C;clear C
    by_cases hjk:j<k
    ·obtain⟨g,rfl,-,-⟩:=zQ m oM;obtain⟨o0,c0⟩:=zaW m j oM;have f0:=m.frozenAt j;have o:=zkc.setRow (k:=j) (x:=(p:Int) - 1) Z.out d.out f.symm;clear m;have Y:=za f;clear f;go_wp2_with fail
     go_roundw
     case rel =>
      refine⟨j+1,_,l.set j ((p:Int) - 1),oM,gM,o,za (by rw [fN];exact r.out),za (fun l' hl'=>?_),za ?_⟩
      ·rcases fH hl' with h1|h1
       ·exact B.out l' h1
       ·rw [h1,fN];exact Y.out
      ·have:=r.out;rw [fI oM]
     case measure=>simp [intOf];omega
    ·obtain⟨f1,f2⟩:=zkc.fin (N:=M+400) (sh:=shA a p k) hxz bz rfl hRl (dD _) S oM ⟨rfl,r.out,hal.out,B.out⟩;have bz5:=bz.dr zkc.dr oM;have cZ:=bz5.cell;have fZ:=bz5.frozen;clear m f;go_wp2_with fail
     have cf:=f2.cell;exact bodyPost_ret (v:=.agg #[a,.slice (some Q) p c,.slice (some O) p c']) (by simp [results,Tryz.results258,go_sem,cf]) rfl f1.out
def zeQ:Value->ByteArray
 |.string s=>s
 |_=>⟨#[]⟩
def RetTexts (L:Nat) (w:World) (e:Ending) (w':World):Prop:=∃ (A:Option Addr) (n c:Nat) (l:List ByteArray),e=.returned (.slice A n c)∧0<n∧w'.ownsRow w.heap.size 9 1 (.slice A n c) n (zM l)∧(∀ x∈l,x.size<=L)∧Ext w w'
theorem zaM (w:World)  (hu:zM (us.toList.map zeQ)=us.toList)(hn:us.size=n)(h:n<=1000):(w.alloc (.cells us 9)).ownsRow w.heap.size 9 1 (.slice (some w.heap.size) n n) n (zM (us.toList.map zeQ)):=by
 rw [hu];exact World.ownsRow_lit w us n (dD _) lM (by simpa using hn)
theorem spec_l2Texts :Calls Tryz.prog 279 #[] w (RetTexts 100 w):=by
 go_enter Tryz.func279,Tryz.ntmps279
 go_wp2;go_ret;exact⟨_,_,_,_,rfl,dM,zaM w rfl rfl oM,by decide +kernel,(dB _).alloc _⟩
theorem reads_ints {e:TypeId} (l:List Int)(hu:us.toList=ints l)(hn:us.size=n)(hx:Ext (w.alloc (.cells us e)) w')(h63:n<=1000):Reads w' w.heap.size (w.heap.size+1) 1 (some ⟨w.heap.size,0,none⟩) n (ints l):=
 ⟨by rw [← hu];simpa using hn,oM,fun _=>⟨_,rfl,dD _,sM,fun j u hj=>by
  have:=(zcM hx).cell j
  rw [zS,eJ,this]
  rw [← hu] at hj
  simpa using hj⟩⟩
theorem zbb (l:List Int) (n:Nat) (us:Array Value)(hu:us.toList=ints l)(hn:us.size=n)(h0:0<n)(h63:n<=1000)(h:Rd w R M)(hM:M<=1000000000) :
  Calls Tryz.prog 237 #[.pointer (some R),.slice (some w.heap.size) n n] (w.alloc (.cells us 3)) (RetNum R M l (w.alloc (.cells us 3))):=
 l19Rd_num (h.ext ((dB _).alloc _)) hM (reads_ints l hu hn (dB _) h63) h.lt h0
theorem zhv {s:Sys}  (hs:zbK W R A n s)(hg:Good s)(hn:n<=L∧n<=c)(hr:Rd W R M)(hd:Dr R w W)(hB:Blk W Z 38 cs)(hR:R<w.heap.size)(hZ:w.heap.size<=Z) :
  RetG R M L w (.returned (.agg #[s.al,s.st,.slice A n c])) (((W.setCell Z s.al).setCell ⟨Z,1,none⟩ s.st).setCell ⟨Z,2,none⟩ (.slice A n c)):=by
 have a:=zdy W Z (.int .i64 s.al) (.int .i64 s.st) (.slice A n c);exact⟨s,A,n,c,rfl,hs.far hB dM a,hg,hn,hr.frm a (fun k h1 h2=>oM),((hd.ag (p:=⟨Z,0,none⟩) hZ _).ag (p:=⟨Z,1,none⟩) hZ _).ag (p:=⟨Z,2,none⟩) hZ _⟩
theorem yA16a1 {P:Prop}(h:P:=by
 go_wp2_with fail
 refine (zbb [3,2,4,1,5] 5 #[(3:Int),(2:Int),(4:Int),(1:Int),(5:Int)] rfl rfl oM oM hr6 oM).mono ?_;rintro e w7 ⟨st,hst,rfl,hr7,hd7⟩;have hw7:=(hw6.ext ((Ext.refl _).alloc _)).trans hd7;have bz7:=(bz6.ext ((Ext.refl _).alloc _)).dr hd7 oM;go_wp2_with fail
 refine (zbb [3,2,4,6] 4 #[(3:Int),(2:Int),(4:Int),(6:Int)] rfl rfl oM oM hr7 oM).mono ?_;rintro e w8 ⟨fw,_,rfl,hr8,hd8⟩;have hw8:=(hw7.ext ((Ext.refl _).alloc _)).trans hd8;have bz8:=(bz7.ext ((Ext.refl _).alloc _)).dr hd8 oM;obtain⟨a,rfl,ha⟩:∃ a:Nat,al=a∧a<64:=⟨al.toNat,by simp at hal;omega,by simp at hal;omega⟩;obtain⟨p,rfl,hp1,hp⟩:∃ p:Nat,st=p∧1<=p∧p<=16:=⟨st.toNat,by simp at hst;omega,by simp at hst;omega,by simp at hst;omega⟩;clear hal hst;go_wp2_with fail
 refine (zeE hr8 oM ha hp1 hp).mono ?_;rintro e w9 ⟨s9,A9,n9,c9,rfl,hs9,hg9,hn9,hr9,hd9⟩;have bz9:=bz8.dr hd9 oM;have hfin9:=za (zhv (R:=R) (M:=M+30000) (L:=20000) (c:=c9) hs9 hg9 hn9 (hr9.more oM) (hw8.trans hd9) bz9 hRl (Nat.le_refl _));have cz9:=bz9.cell;have fz9:=bz9.frozen;go_wp2_with fail
 exact bodyPost_ret (v:=.agg #[s9.al,s9.st,.slice A9 n9 c9]) (by simp [results,Tryz.results249,go_sem,cz9]) rfl hfin9.out
 ):P:=h
theorem zia (h:Rd w R M)(hM:M<=800000000) :
  Calls Tryz.prog 249 #[.pointer (some R)] w (RetG R (M+30000) 20000 w):=by
 have hRl:=h.lt;have t:=(dB w).alloc (.cells #[(0:Int),(0:Int),()] 38);have bz:=eP w 38 #[(0:Int),(0:Int),()]
 go_enter Tryz.func249,Tryz.ntmps249
 go_wp2_with fail
 refine (zB (h.ext t) oM).mono ?_;rintro e w1 ⟨y,rfl,_,_,p,k⟩;have q:=t.dr.trans k;have g:=bz.dr k oM;have V:=g.lt;clear bz
 by_cases hy:y=0
 ·subst hy;go_wp2_with fail
  refine (spec_l2Texts).mono ?_;rintro e w2 ⟨A,n,c,l,rfl,Q,zkb,O,j⟩;go_wp2_with fail
  refine (l19Rd_of (p.ext j) oM (eN zkb) oM Q).mono ?_;rintro e w3 ⟨x,S,rfl,z,o⟩;have T:=O x S;go_wp2_with fail
  refine (zbS z oM).mono ?_;rintro e w4 ⟨s,B,m,d,X,rfl,I,⟨H,-⟩,hm,hr4,hd4⟩;have r:Dr R w w4:=((q.ext j).trans o).trans hd4;have bz4:=((g.ext j).dr o oM).dr hd4 oM;have a:=(dB w4).alloc (.cells #[s.al,s.st,.slice B m d] 38);have G:=eP w4 38 #[s.al,s.st,.slice B m d];cases X
  ·have C:=hr4.ext a;have D:=r.ext a;have bz5:=bz4.ext a;clear G a I H;go_wp2_with fail
   have F:=(zbb [3,6,7,5,1,0,12] 7 #[(3:Int),(6:Int),(7:Int),(5:Int),(1:Int),(0:Int),(12:Int)] rfl rfl oM oM C oM);simp only [World.size_alloc] at F;refine F.mono ?_;rintro e Y ⟨al,hal,rfl,hr6,b⟩;have hw6:=(D.ext ((dB _).alloc _)).trans b;have bz6:=(bz5.ext ((dB _).alloc _)).dr b oM;exact yA16a1
  ·have i:=H rfl;have Z:=G.cell;have f:=bz4.ext a;have u:=f.cell;have J:=f.frozen;go_wp2_with fail
   generalize w4.alloc _=w5 at *;have E:=zhv (R:=R) (M:=M+30000) (L:=20000) (c:=d) (I.ext a) i oM ((hr4.more oM).ext a) (r.ext a) f hRl (dD _);exact bodyPost_ret (v:=.agg #[s.al,s.st,.slice B m d]) (by simp [results,Tryz.results249,go_sem,u]) rfl E
 ·have U:((y:Int)==0)=false:=(by rw [beq_eq_false_iff_ne];omega);go_wp2_with fail
  refine (zbb [3,6,7,5,1,0,12] 7 #[(3:Int),(6:Int),(7:Int),(5:Int),(1:Int),(0:Int),(12:Int)] rfl rfl oM oM p oM).mono ?_;rintro e Y ⟨al,hal,rfl,hr6,b⟩;have hw6:=(q.ext ((dB _).alloc _)).trans b;have bz6:=(g.ext ((dB _).alloc _)).dr b oM;exact yA16a1
def zgZ (b:Aut):Prop:=∃ a p:Nat,a<64∧1<=p∧p<=16∧shA a p (letters a 6).length b
theorem zha.mono {sh sh':Aut->Prop}  {e:Ending}(h:zha R M sh w e w')(hd:Dr R w0 w)(hM:M<=N)(hs:∀ b,sh b->sh' b):zha R N sh' w0 e w':=by
 obtain⟨b,A,n,c,A',n',c',d,f,hsh,g,a⟩:=h;exact⟨b,A,n,c,A',n',c',d,f.less hd.size,za (hs b hsh.out),g.more hM,hd.trans a⟩
theorem zjh {sh:Aut->Prop}   {t:TypeId}(hx:Ext w w0)(ho:zN W w0.heap.size A n c A' n' c' b)(hsh:sh b)(hr:Rd W R M)(hd:Dr R w0 W) (bz:Blk w0 Z t cs)(hc:cs.size=3)(hR:R<w.heap.size)(hZ:w.heap.size<=Z)(hM:M<=N) :
  Hid (zha R N sh w (.returned (.agg #[b.al,.slice A n c,.slice A' n' c'])) (((W.setCell Z b.al).setCell ⟨Z,1,none⟩ (.slice A n c)).setCell ⟨Z,2,none⟩ (.slice A' n' c'))) ∧
  Blk (((W.setCell Z b.al).setCell ⟨Z,1,none⟩ (.slice A n c)).setCell ⟨Z,2,none⟩ (.slice A' n' c')) Z t #[.int .i64 b.al,.slice A n c,.slice A' n' c']:=by
 have d:=bz.lt;have a:=zac W Z (.int .i64 b.al) (.slice A n c) (.slice A' n' c');refine⟨za ⟨b,A,n,c,A',n',c',rfl,(ho.keep a (fun b h1 e=>oM)).less hx.size,za hsh,(hr.more hM).frm a (fun k hk e=>oM),?_⟩,zai (bz.dr hd oM) hc _ _ _⟩;exact (((hx.dr.trans hd).ag (p:=⟨Z,0,none⟩) hZ _).ag (p:=⟨Z,1,none⟩) hZ _).ag (p:=⟨Z,2,none⟩) hZ _
theorem spec_l1Some (h:Rd w R M)(hM:M<=900000000) :
  Calls Tryz.prog 274 #[.pointer (some R)] w (fun e w'=>∃ x:Nat,x<64∧e=.returned (.int .i64 x)∧Rd w' R (M+1)∧Dr R w w'):=by
 go_enter Tryz.func274,Tryz.ntmps274
 go_wp2_with fail
 refine (zbb [3,7,1,5,0,6,63,2,21] 9 #[(3:Int),(7:Int),(1:Int),(5:Int),(0:Int),(6:Int),(63:Int),(2:Int),(21:Int)] rfl rfl oM oM h oM).mono ?_;rintro e w1 ⟨x,c,rfl,b,a⟩;obtain⟨y,d,rfl⟩:∃ y:Nat,y<64∧x=(y:Int):=⟨x.toNat,by simp at c;omega,by simp at c;omega⟩;clear c;go_wp2_with fail
 go_ret;exact⟨y,d,rfl,b,((Dr.refl R w).alloc _).trans a⟩
theorem yA16a2 {P:Prop}(h:P:=by
 intro e w4 hret;obtain⟨b,A,n,c,A',n',c',rfl,zkb,hsh,hr4,hd4⟩:=hret.mono (N:=M+500) (sh':=zgZ) hd13 oM (fun b hb=>⟨a,p,ha,hp1,oM,hb⟩);obtain⟨f1,f2⟩:=zjh (N:=M+500) (sh:=zgZ) hxz zkb hsh.out hr4 hd4 bz rfl hRl (Nat.le_refl _) (Nat.le_refl _);have bz5:=bz.dr hd4 oM;have cZ:=bz5.cell;have fZ:=bz5.frozen;go_wp2_with fail
 have cf:=f2.cell;exact bodyPost_ret (v:=.agg #[b.al,.slice A n c,.slice A' n' c']) (by simp [results,Tryz.results196,go_sem,cf]) rfl f1.out
 ):P:=h
theorem spec_l3Over (h:Rd w R M)(hM:M<=800000000)(ha:a<64) :
  Calls Tryz.prog 196 #[.pointer (some R),a] w (zha R (M+500) zgZ w):=by
 have hRl:=h.lt
 go_enter Tryz.func196,Tryz.ntmps196
 go_wp2_with fail
 generalize U0:w.alloc _=w1 at *;have hxz:=iQ U0;have bz:=eI U0;clear U0;refine (zB (h.ext hxz) oM).mono ?_;rintro e l ⟨y,rfl,-,-,g,f⟩
 by_cases hy:y=0
 ·subst hy;go_wp2_with fail
  refine (zbb [3,2,4,1] 4 #[(3:Int),(2:Int),(4:Int),(1:Int)] rfl rfl oM oM g oM).mono ?_;rintro e k ⟨x,b,rfl,d,c⟩;obtain⟨p,hp1,i,rfl⟩:∃ y:Nat,1<=y∧y<=4∧x=(y:Int):=⟨x.toNat,by simp at b;omega,by simp at b;omega,by simp at b;omega⟩;clear b;have hd13:=(f.alloc _).trans c;go_wp2_with fail
  refine (zic d oM ha hp1 oM).mono ?_;exact yA16a2
 ·have j:((y:Int)==0)=false:=by simp;omega
  go_wp2_with fail
  refine (zbb [2,3,1,4,5] 5 #[(2:Int),(3:Int),(1:Int),(4:Int),(5:Int)] rfl rfl oM oM g oM).mono ?_;rintro e k ⟨x,b,rfl,d,c⟩;obtain⟨p,hp1,i,rfl⟩:∃ y:Nat,1<=y∧y<=5∧x=(y:Int):=⟨x.toNat,by simp at b;omega,by simp at b;omega,by simp at b;omega⟩;clear b;have hd13:=(f.alloc _).trans c;go_wp2_with fail
  refine (zgq d oM ha oM).mono ?_;exact yA16a2
section
variable {w0 W W':World} {R G M N:Nat} {al:Int} {v vA:Value} {rows:List Value} {ls:List (List Int)} {acc:List Bool}
theorem zbT.setAl (h:zbT w0 W R G M al v rows ls vA acc) (x:Int):zbT w0 (W.setCell G x) R G M x v rows ls vA acc:=by
 have d:=h.hR;have a:=h.hG;have c:=dF W G 0 (.int .i64 x);refine⟨by simpa using h.blk.ab 0 _,zf h.nx c (fun b hb hS=>zq h.nx h.blk dM hb hS),h.rows.frm c (fun i r b hr hb hS=>?_),zf h.acc c (fun b hb hS=>zq h.acc h.blk dM hb hS),h.rd.frm c (fun k hk e=>oM),h.dr.ag (p:=⟨G,0,none⟩) a _,d,a⟩;obtain⟨g,_,f⟩:=h.rows.row hr;exact zq f h.blk dM hb hS
theorem zbT.setNext (h:zbT w0 W R G M al v rows ls vA acc) (ho:W.ownsRow w0.heap.size 128 1 v' 0 []):zbT w0 (W.setCell ⟨G,1,none⟩ v') R G M al v' [] [] vA acc:=by
 have c:=h.hR;have a:=h.hG;have d:=dF W G 1 v';exact⟨by simpa using h.blk.ab 1 _,zf ho d (fun b hb hS=>zq ho h.blk dM hb hS),zE.nil _ _,zf h.acc d (fun b hb hS=>zq h.acc h.blk dM hb hS),h.rd.frm d (fun k hk e=>oM),h.dr.ag (p:=⟨G,1,none⟩) a _,c,a⟩
theorem zbT.setMarks (h:zbT w0 W R G M al v rows ls vA acc) (ho:W.ownsRow w0.heap.size 4 1 v' 0 []):zbT w0 (W.setCell ⟨G,2,none⟩ v') R G M al v rows ls v' []:=by
 have d:=h.hR;have a:=h.hG;have c:=dF W G 2 v';refine⟨by simpa using h.blk.ab 2 _,zf h.nx c (fun b hb hS=>zq h.nx h.blk dM hb hS),h.rows.frm c (fun i r b hr hb hS=>?_),zf ho c (fun b hb hS=>zq ho h.blk dM hb hS),h.rd.frm c (fun k hk e=>oM),h.dr.ag (p:=⟨G,2,none⟩) a _,d,a⟩;obtain⟨f,_,ho⟩:=h.rows.row hr;exact zq ho h.blk dM hb hS
theorem zbT.growRow {row:Value}   {cap gN cN nN:Nat}(h:zbT w0 W R G M al (.slice (some gN) nN cN) rows ls vA acc)(hn:nN=ls.length)(hr:rows[i]?=some row)(hl:ls[i]?=some l)
  (zkb:W'.ownsRow w0.heap.size 3 1 (.slice (some g) (l.length+1) cap) (l.length+1) (ints l++[.int .i64 x])) (hg:W.grownBy W' row.ownBlock) (hat:row.ownBlock=some g∨g=W.heap.size+1) :
  (∀ u,W.cell? ⟨G,u,none⟩=W'.cell? ⟨G,u,none⟩)∧Hid (W'.cell? ⟨gN,i,none⟩=some row)∧W'.frozen? ⟨gN,i,none⟩=false ∧
  zbT w0 (W'.setCell ⟨gN,i,none⟩ (.slice (some g) (l.length+1) cap)) R G M al (.slice (some gN) nN cN) (rows.set i (.slice (some g) (l.length+1) cap)) (ls.set i (l++[x])) vA acc:=by
 subst hn;have y:=h.hR;have v:=h.hG;have E:i<ls.length:=(List.getElem?_eq_some_iff.1 hl).1;have s:=h.rows.2.1 i _ l hr hl;have n:Frm (fun k=>row.ownBlock=some k) W W':=fV hg;obtain⟨z,D⟩:=h.grown s hg;have t:Blk W' G 31 #[.int .i64 al,.slice (some gN) ls.length cN,vA]:=h.blk.frm n (fun e=>zq s h.blk dM e rfl);have a:W'.ownsRow w0.heap.size 128 1 (.slice (some gN) ls.length cN) ls.length rows:=zf h.nx n (fun b hb hS=>zaz h.nx s dM hb hS);have zkc:W'.ownsRow w0.heap.size 4 1 vA acc.length (zah acc):=zf h.acc n (fun b hb hS=>zaz h.acc s dM hb hS);have B:=(a.lt gN rfl).1;have q:=h.rows.1;have d:∀ (j:Nat) (r:Value) (b:Nat),j≠i->rows[j]?=some r->r.ownBlock=some b->b≠g:=fun j r b hji hj hb e=>by
  subst e;rcases hat with h1|h1
  ·exact h.rows.2.2 j i r row b hj hr hji hb h1
  ·have:=h.low j r b hj hb;omega
 have f:zE W' w0.heap.size (rows.set i (.slice (some g) (l.length+1) cap)) (ls.set i (l++[x])):=by
  refine⟨by simp [q],fun j r m hj hm=>?_,fun j j' r r' b hj hj' hne hb=>?_⟩
  ·by_cases hji:i=j
   ·subst hji;rw [fI oM] at hj;rw [fI E] at hm;obtain rfl:=Option.some.inj hj;obtain rfl:=Option.some.inj hm;simpa [ints] using zkb
   ·rw [gK hji] at hj hm;exact zf (h.rows.2.1 j r m hj hm) n (fun b hb hS=>h.rows.2.2 j i r row b hj hr (fun e=>hji e.symm) hb hS)
  ·by_cases hji:i=j
   ·subst hji;rw [fI oM] at hj;obtain rfl:=Option.some.inj hj;rw [gK hne] at hj';have o:g=b:=by simpa [Value.ownBlock] using hb
    subst o;exact fun hc=>d j' r' _ (fun e=>hne e.symm) hj' hc rfl
   ·rw [gK hji] at hj
    by_cases hji':i=j'
    ·subst hji';rw [fI oM] at hj';obtain rfl:=Option.some.inj hj';intro hc;have o:g=b:=by simpa [Value.ownBlock] using hc
     exact d j r b (fun e=>hji e.symm) hj hb o.symm
    ·rw [gK hji'] at hj';exact h.rows.2.2 j j' r r' b hj hj' hne hb
 have c:=dF W' gN i (.slice (some g) (l.length+1) cap);refine⟨fun u=>by rw [h.blk.cell,t.cell],za (by rw [a.cellAt i oM,hr]),a.frozenAt i,⟨t.frm c (fun e=>zq a t dM rfl e.symm),?_,?_,zf zkc c (fun b hb hS=>?_),D.frm c (fun k hk e=>oM),z.ag (p:=⟨gN,i,none⟩) B _,y,v⟩⟩
 ·rw [fN];exact (a.stored i _).1
 ·refine f.frm c (fun j r b hj hb hS=>?_);obtain⟨F,_,C⟩:=f.row hj;subst hS;exact zaz C a dM hb rfl
 ·subst hS;exact zaz zkc a dM hb rfl
end
def BdL (L:Nat) (ls:List (List Int)) (acc:List Bool):Prop:=ls.length<=L∧acc.length<=L∧∀ l∈ls,l.length<=L
theorem BdL.more {K:Nat}  (h:BdL L ls acc)(hK:L<=K):BdL K ls acc:=⟨eA h.1 hK,eA h.2.1 hK,fun l hl=>eA (h.2.2 l hl) hK⟩
def BdA (L:Nat) (b:Aut):Prop:=BdL L b.next b.acc
theorem BdA.of (h:zgZ b):BdA 16 b:=by
 obtain⟨a,p,ha,hp1,hp,h1,d,h3,c⟩:=h;exact⟨oM,oM,fun l hl=>by have:=c l hl;have:=zF a 6;omega⟩
theorem tot_le :∀ ls:List (List Int),(∀ l∈ls,l.length<=L)->tot ls<=ls.length*L
 |[],_=>by simp [tot]
 |l :: r,h=>by
  have:=tot_le r (fun x hx=>h x (by simp [hx]))
  have:=h l sM
  rw [tot_cons,List.length_cons,Nat.add_mul]
  omega
theorem BdA.size (h:BdA L b)(hL:L<=200):b.size<=1048576:=by
 have h1:=tot_le b.next h.2.2;have a:b.next.length*L<=200*200:=Nat.mul_le_mul (eA h.1 hL) hL;have h3:=h.1;have c:=h.2.1;unfold Aut.size;omega
theorem eq_edge (a b c d e f:Int) (w:World):(Op.equalIn 10000 152 (.agg #[a,b,c]) (.agg #[d,e,f])).run Tryz.prog w=.ok (a==d&&(b==e&&c==f)) w:=by
 have i:=Tryz.underlying3;have h:=Tryz.isAgg3;have j:=Tryz.sizeOf3;have g:Tryz.prog.underlying 152=some (.struct (Tryz.prog.fieldsOf 152)):=kM;have hp:Tryz.prog.stoodInHeld 152=false:=kM;rw [show (10000:Nat)=9999+1 from rfl,run_equalIn_agg w 9999 152 _ _ g hp];simp only [Program.fieldsOf,Tryz.underlying152];go_simp
 by_cases h1:a=d<;>by_cases h2:b=e<;>by_cases h3:c=f<;>simp [h1,h2,h3]
theorem wrong_acc (hr:Rd w R M)(hx:Ext w w1)(hR:R<w.heap.size)(hxW:Ext w1 W) (zkb:W.ownsRow w1.heap.size 152 3 v es.length (zw es))(hG:w1.heap.size<=G)(hB:Blk W G 38 #[al,st,v]) :
  Acc w w1 W R G M al st v es:=
 ⟨hB,zkb,hr.ext (hx.trans hxW),(hx.trans hxW).dr,hxW.aj,hR,hx.size,eA hx.size hG⟩
theorem edge_lit (w:World):(w.alloc (.cells #[] 152)).drew.ownsRow w.heap.size 152 3 (.slice (some w.heap.size) 0 0) 0 []:=
 World.ownsRow_lit w #[] 0 (dD _) lM rfl
theorem zjt {base:Nat}  (hn:n=es.length)(h:W.ownsRow base 152 3 v n (zw es)):W.ownsRow base 152 3 v es.length (zw es):=by
 subst hn;exact h
theorem zgY (hr:Rd w R M)(hx:Ext w w1)(hR:R<w.heap.size)(hxW:Ext w1 W) (zkb:W.ownsRow w1.heap.size 152 3 v es.length (zw es))(hB:Blk W G 38 #[(0:Int),(0:Int),()])(hG:w1.heap.size<=G) :
  ∃ (G':Nat) (v':Value),Value.pointer (some G)=.pointer (some G')∧w1.heap.size<=G'∧Acc w w1 (((W.setCell G al).setCell ⟨G,1,none⟩ st).setCell ⟨G,2,none⟩ v) R G' M al st v' es:=by
 have h:=zdy W G (.int .i64 al) (.int .i64 st) v;have c:∀ b,v.ownBlock=some b->b≠G:=by
  rintro b a rfl;rcases zkb.2 with ⟨rfl,_⟩|⟨g,d,f,rfl,_,j,_⟩
  ·simp [Value.ownBlock] at a
  ·have i:g=b:=by simpa [Value.ownBlock] using a
   subst i;unfold Blk at hB;rw [j] at hB;injection hB with hB
   injection hB with _ ht
   exact absurd ht dM
 refine⟨G,v,rfl,hG,wrong_acc hr hx hR ?_ (zf zkb h (fun b a hS=>c b a hS)) hG (by simpa using ((hB.ab 0 (.int .i64 al)).ab 1 (.int .i64 st)).ab 2 v)⟩;exact ((hxW.setCell (p:=⟨G,0,none⟩) hG _).setCell (p:=⟨G,1,none⟩) hG _).setCell (p:=⟨G,2,none⟩) hG _
theorem zhm {wB:World}     (h:Acc w0 wB W R G M al st (.slice A n c) es)(hn:0<n):∃ g,A=some ⟨g,0,none⟩:=by
 rcases h.own.2 with ⟨a,f⟩|⟨g,b,d,a,_⟩
 ·injection a with _ h2 _;omega
 ·injection a with h1
  exact⟨g,h1⟩
theorem yA16a5 {P:Prop}(h:P:=by
 have h1':=h1.out;refine zP fun K hK=>?_;go_simp;refine hK.out _ _ ?_;refine zag ?_;go_wp2_with fail
 go_meet;exact⟨_,_,_,_,h3.more oM,by have:=HnL.out;simp;omega⟩
 ):P:=h
theorem yA16a7 {P:Prop}(h:P:=by
 refine zP fun K hK=>?_;go_simp;refine hK.out _ _ ?_;refine zag ?_;go_wp2_with fail
 go_meet;exact⟨_,_,_,_,hst.more oM,by have:=HnL.out;simp;omega⟩
 ):P:=h
theorem zaX {s:Sys} (h:Rd w R M)(hM:M<=900000000)(hs:zbK w R A n s)(hn:n<=L)(hL:L<=100000) :
  Calls Tryz.prog 167 #[.pointer (some R),.agg #[s.al,s.st,.slice A n c]] w (RetA R (M+10) (L+1) w):=by
 have hRl:=h.lt;have O:=hs.at_.2;have D:=za hs.1;obtain⟨al,st,a⟩:=s;simp only at O D ⊢;obtain⟨w1,U0⟩:∃ x,Hid ((w.alloc (.cells #[al,st,.slice A n c] 38)).alloc (.cells #[(0:Int),(0:Int),()] 38)=x):=⟨_,za rfl⟩;have ao:Ext w w1:=(((dB _).alloc _).alloc _).trans (Ext.eq_ U0.out);obtain⟨bS,bZ⟩:=zK (Ext.eq_ U0.out);have an:w1.heap.size=w.heap.size+2:=by rw [← U0.out];simp
 have au:=za bS;have ad:=za bZ;have B:=za ao;have av:=za an;clear bS bZ ao an hs
 go_enter Tryz.func167,Tryz.ntmps167
 go_wp2_with fail
 rw [U0.out] at *;have aX:w.heap.size+2<=w1.heap.size:=by rw [av.out];exact dD _
 go_upto_region 1 with fail
 go_cut [5] (fun s5 wx=>∃ (G:Nat) (v:Value),s5=.pointer (some G)∧w1.heap.size<=G∧Acc w w1 wx R G M al st v a)
 case first =>
  have cS:=fun W (hW:Ext w1 W)=>(au.out.ext hW).cell;refine tR (fun X=>Ext w1 X) [10] (Ord.app [0,1,2,3,5,6] (Ord.two 4 (Ord.two 7 (Ord.of [8,9,10]) 9 (Ord.of [7,8,10])) 9 (Ord.of [4,7,8,10]))) ?_;refine tQ ?_;refine zgu (fun K hK=>?_) (fun K hK=>?_)
  ·go_simp;have i:Ext w1 (w1.alloc (.cells #[] 152)).drew:=((dB w1).alloc _).drew;have zkb:(w1.alloc (.cells #[] 152)).drew.ownsRow w1.heap.size 152 3 (.slice (some w1.heap.size) 0 0) 0 []:=edge_lit w1;have U:(w1.alloc (.cells #[] 152)).drew.heap.size=w1.heap.size+1:=sM;refine hK.out _ _ i ?_;refine pT ?_;generalize (w1.alloc (.cells #[] 152)).drew=V at *;refine zgu (fun K hK=>?_) (fun K hK=>?_)
   ·refine zx _ _ _ _ rfl w1.heap.size 152 _ 3 24 Tryz.underlying36 zbr rfl dM (.slice (some w1.heap.size) 0 0) 0 [] rfl zkb (R+1) w.heap.size A n c (zw a) rfl (O.ext (B.out.trans i)) (zdd a) lM oM i.size ?_;intro v Y zkm hg3 hat3;rw [eJ,eX] at zkm;obtain⟨A3,c3,rfl⟩:=zi zkm;have d:Ext w1 Y:=i.grown hg3 (fun k C=>by simp [Value.ownBlock] at C;omega);refine hK.out _ _ d ?_;refine pT ?_;refine tQ ?_;refine zD fun K hK=>?_;go_simp;refine hK.out _ _ (d.alloc _) ?_;refine pT ?_;refine tQ ?_;refine zP fun K hK=>?_;go_simp;refine hK.out _ _ ?_;refine zag ?_;go_wp2_with fail
    go_meet;exact⟨Y.heap.size,.slice A3 n c3,rfl,d.size,wrong_acc h B.out hRl (d.alloc _) (zh (zjt D.out zkm) ((dB _).alloc _)) d.size (eP _ _ _)⟩
   ·go_simp;have d:=i.alloc (.cells #[(0:Int),(0:Int),()] 38);have ap:=(dB V).alloc (.cells #[(0:Int),(0:Int),()] 38);replace zkb:=zh zkb ap;refine hK.out _ _ d ?_;generalize U0:V.alloc _=aZ at *;have H:=eI U0;clear U0;rw [U] at H;have i:=d;refine pT ?_;refine zD (fun K hK=>?_);refine zx _ _ _ _ rfl w1.heap.size 152 _ 3 24 Tryz.underlying36 zbr rfl dM (.slice (some w1.heap.size) 0 0) 0 [] rfl zkb (R+1) w.heap.size A n c (zw a) rfl (O.ext (B.out.trans i)) (zdd a) lM oM i.size ?_;intro v Y zkm hg3 hat3;rw [eJ,eX] at zkm;obtain⟨A3,c3,rfl⟩:=zi zkm;have d:Ext w1 Y:=i.grown hg3 (fun k C=>by simp [Value.ownBlock] at C;omega);have p:Blk Y (w1.heap.size+1) 38 #[.int .i64 0,.int .i64 0,.slice none 0 0]:=H.frm (fV hg3) (by simp [Value.ownBlock]);refine hK.out _ _ d ?_;refine pT ?_;refine tQ ?_;have cE:=p.cell;have fE:=p.frozen;refine zP fun K hK=>?_;go_simp;refine hK.out _ _ ?_;refine zag ?_;go_wp2_with fail
    go_meet;exact zgY h B.out hRl d (zjt D.out zkm) p oM
  ·go_simp;have i:Ext w1 (w1.alloc (.cells #[(0:Int),(0:Int),()] 38)).drew:=((dB w1).alloc _).drew;have aw:Blk (w1.alloc (.cells #[(0:Int),(0:Int),()] 38)).drew w1.heap.size 38 #[.int .i64 0,.int .i64 0,.slice none 0 0]:=eP w1 _ _;have U:(w1.alloc (.cells #[(0:Int),(0:Int),()] 38)).drew.heap.size=w1.heap.size+1:=sM;refine hK.out _ _ i ?_;refine pT ?_;generalize (w1.alloc (.cells #[(0:Int),(0:Int),()] 38)).drew=V at *;refine zD fun K hK=>?_;go_simp;have d:=i.alloc (.cells #[] 152);have zkb:(V.alloc (.cells #[] 152)).ownsRow w1.heap.size 152 3 (.slice (some ⟨w1.heap.size+1,0,none⟩) 0 0) 0 []:=by
    rw [← U];exact World.ownsRow_lit V #[] 0 i.size lM rfl
   have H:=aw.ext ((dB V).alloc (.cells #[] 152));refine hK.out _ _ d ?_;generalize V.alloc _=Y at *;refine pT ?_;refine zD (fun K hK=>?_);refine zx _ _ _ _ rfl w1.heap.size 152 _ 3 24 Tryz.underlying36 zbr rfl dM (.slice (some ⟨w1.heap.size+1,0,none⟩) 0 0) 0 [] rfl zkb (R+1) w.heap.size A n c (zw a) rfl (O.ext (B.out.trans d)) (zdd a) lM oM d.size ?_;intro v w4 hown4 hg4 hat4;rw [eJ,eX] at hown4;obtain⟨A4,c4,rfl⟩:=zi hown4;have aq:Ext w1 w4:=d.grown hg4 (fun k C=>by simp [Value.ownBlock] at C;omega);have p:Blk w4 w1.heap.size 38 #[.int .i64 0,.int .i64 0,.slice none 0 0]:=H.frm (fV hg4) (by simp [Value.ownBlock]);refine hK.out _ _ aq ?_;refine pT ?_;refine tQ ?_;have cE:=p.cell;have fE:=p.frozen;refine zP fun K hK=>?_;go_simp;refine hK.out _ _ ?_;refine zag ?_;go_wp2_with fail
   go_meet;exact zgY h B.out hRl aq (zjt D.out hown4) p (dD _)
 case rest =>
  obtain⟨G,v,rfl,aV,zkc⟩:=hcut;obtain⟨A1,n1,c1,rfl⟩:=zkc.form;obtain⟨rfl,am⟩:=zkc.reads;have aW:=zkc.hG;have cG:=zkc.blk.cell;have aj:=am.2.len;clear am;have az:a.length<=L:=oH D.out;have HnL:=za az;go_wp2_with fail
  refine (zB (n:=a.length) zkc.rd oM).mono ?_;rintro e Y ⟨k,rfl,ah,ay,ak,ag⟩;replace zkc:=zkc.drawn ag ak;clear ag ak cG;have Hk:=za ah;clear ah ay;go_wp2_with fail
  refine (zB (n:=30) zkc.rd oM).mono ?_;rintro e w4 ⟨y,rfl,-,-,hr4,hd4⟩;replace zkc:=zkc.drawn hd4 hr4;clear hd4 hr4;go_upto_block 0 with fail
  go_cut [] (fun wx=>∃ (al st:Int) (v:Value) (S:List Edg),Acc w w1 wx R G (M+10) al st v S∧S.length<=L+1)
  case first =>
   have aP:=za aj;clear aj;have I:y=0∨y=1∨y=2∨y=3∨y=4∨y=5∨y=6∨7<=y:=oM;rcases I with t|t|t|t|t|t|t|t
   ·subst t;have aA:True:=trivial;go_wp2_with fail
    refine (zbb [64,(-1),1,63] 4 #[(64:Int),.int .i64 (-1),(1:Int),(63:Int)] rfl rfl oM oM zkc.rd oM).mono ?_;rintro e E ⟨x,-,rfl,m,f⟩;replace zkc:=(zkc.ext ((dB _).alloc _)).drawn f m;have cG:=zkc.blk.cell;have fG:=zkc.blk.frozen;go_wp2_with fail
    go_meet;exact⟨_,_,_,a,(zkc.setAl x).more oM,oH HnL.out⟩
   ·subst t;have aA:True:=trivial;go_wp2_with fail
    refine (zbb [0,17,(-1),16,1] 5 #[(0:Int),(17:Int),.int .i64 (-1),(16:Int),(1:Int)] rfl rfl oM oM zkc.rd oM).mono ?_;rintro e E ⟨x,-,rfl,m,f⟩;replace zkc:=(zkc.ext ((dB _).alloc _)).drawn f m;have cG:=zkc.blk.cell;have fG:=zkc.blk.frozen;go_wp2_with fail
    go_meet;exact⟨_,_,_,a,(zkc.setSt x).more oM,oH HnL.out⟩
   ·subst t
    by_cases hn0:0<a.length
    ·have C:=Hk.out oM;have r:k<a.length:=oM;obtain⟨g,rfl⟩:=zhm zkc hn0;have l:a.length≠0:=oM;have T:R<w1.heap.size:=by have:=zkc.hR;have:=zkc.hB;omega
     have cG:∀ W,Dr R w4 W->∀ q,W.cell? ⟨G,q,none⟩=#[Value.int .i64 al,.int .i64 st,.slice (some g) a.length c1][q]?:=fun W hW=>(zkc.blk.dr hW (oH zkc.hG)).cell;clear C l;go_wp2_with fail
     refine tR (fun X=>Dr R w4 X) [8] (Ord.of [0,1,2,3,4,5,6,7,8]) ?_;refine tQ ?_;refine zD fun K hK=>?_;go_simp;refine hK.out _ _ ((Dr.refl R w4).drew.alloc _) ?_;refine pT ?_;refine tQ ?_;refine zD fun K hK=>?_;go_simp;refine (zbb (w:=w4.drew) [(-1),16,0,2] 4 #[.int .i64 (-1),(16:Int),(0:Int),(2:Int)] rfl rfl oM oM (zkc.rd.ext (dB _).drew) oM).mono ?_;rintro e E ⟨x,-,rfl,m,f⟩;have j:Dr R w4 E:=((Dr.refl R w4).drew.alloc _).trans f;have b:=zkc.drawn j m;refine hK.out _ _ j ?_;refine pT ?_;refine tQ ?_;have zkb:=b.own;obtain⟨o0,c0⟩:=zaW zkb (k*3) oM;have f0:=zkb.frozenAt (k*3);have hst:=b.turn rfl (zes (dE r) x).1 sM;exact yA16a7
    ·have hn1:a.length=0:=oM;clear hn0;go_wp2_with fail
     go_meet;exact⟨_,_,_,a,zkc.more oM,oH HnL.out⟩
   ·subst t
    by_cases hn0:0<a.length
    ·have C:=Hk.out oM;have r:k<a.length:=oM;obtain⟨g,rfl⟩:=zhm zkc hn0;have l:a.length≠0:=oM;have T:R<w1.heap.size:=by have:=zkc.hR;have:=zkc.hB;omega
     have cG:∀ W,Dr R w4 W->∀ q,W.cell? ⟨G,q,none⟩=#[Value.int .i64 al,.int .i64 st,.slice (some g) a.length c1][q]?:=fun W hW=>(zkc.blk.dr hW (oH zkc.hG)).cell;clear C l;go_wp2_with fail
     refine tR (fun X=>Dr R w4 X) [8] (Ord.of [0,1,2,3,4,5,6,7,8]) ?_;refine tQ ?_;refine zD fun K hK=>?_;go_simp;refine hK.out _ _ ((Dr.refl R w4).drew.alloc _) ?_;refine pT ?_;refine tQ ?_;refine zD fun K hK=>?_;go_simp;refine (zbb (w:=w4.drew) [(-1),16,0,3] 4 #[.int .i64 (-1),(16:Int),(0:Int),(3:Int)] rfl rfl oM oM (zkc.rd.ext (dB _).drew) oM).mono ?_;rintro e E ⟨x,-,rfl,m,f⟩;have j:Dr R w4 E:=((Dr.refl R w4).drew.alloc _).trans f;have b:=zkc.drawn j m;refine hK.out _ _ j ?_;refine pT ?_;refine tQ ?_;have zkb:=b.own;obtain⟨o0,c0⟩:=zaW zkb (k*3+2) oM;have f0:=zkb.frozenAt (k*3+2);have hst:=b.turn rfl (zes (dE r) x).2.2 sM;exact yA16a7
    ·have hn1:a.length=0:=oM;clear hn0;go_wp2_with fail
     go_meet;exact⟨_,_,_,a,zkc.more oM,oH HnL.out⟩
   ·subst t
    by_cases hn0:0<a.length
    ·have C:=Hk.out oM;have r:k<a.length:=oM;obtain⟨g,rfl⟩:=zhm zkc hn0;have l:a.length≠0:=oM;have T:R<w1.heap.size:=by have:=zkc.hR;have:=zkc.hB;omega
     have cG:∀ W,Dr R w4 W->∀ q,W.cell? ⟨G,q,none⟩=#[Value.int .i64 al,.int .i64 st,.slice (some g) a.length c1][q]?:=fun W hW=>(zkc.blk.dr hW (oH zkc.hG)).cell;clear C l;go_wp2_with fail
     refine tR (fun X=>Dr R w4 X) [8] (Ord.of [0,1,2,3,4,5,6,7,8]) ?_;refine tQ ?_;refine zD fun K hK=>?_;go_simp;refine hK.out _ _ ((Dr.refl R w4).drew.alloc _) ?_;refine pT ?_;refine tQ ?_;refine zD fun K hK=>?_;go_simp;refine (zbb (w:=w4.drew) [(-1),6,70,5,0] 5 #[.int .i64 (-1),(6:Int),(70:Int),(5:Int),(0:Int)] rfl rfl oM oM (zkc.rd.ext (dB _).drew) oM).mono ?_;rintro e E ⟨x,-,rfl,m,f⟩;have j:Dr R w4 E:=((Dr.refl R w4).drew.alloc _).trans f;have b:=zkc.drawn j m;refine hK.out _ _ j ?_;refine pT ?_;refine tQ ?_;have zkb:=b.own;obtain⟨o0,c0⟩:=zaW zkb (k*3+1) oM;have f0:=zkb.frozenAt (k*3+1);have hst:=b.turn rfl (zes (dE r) x).2.1 sM;exact yA16a7
    ·have hn1:a.length=0:=oM;clear hn0;go_wp2_with fail
     go_meet;exact⟨_,_,_,a,zkc.more oM,oH HnL.out⟩
   ·subst t
    by_cases hn0:0<a.length
    ·have C:=Hk.out oM;have r:k<a.length:=oM;obtain⟨g,rfl⟩:=zhm zkc hn0;have l:a.length≠0:=oM;have zkb:=zkc.own;have hE:=za (dE r);obtain⟨ed,ax⟩:∃ ed,Hid (a[k]?=some ed):=⟨_,hE.out⟩;obtain⟨d0,d1,d2⟩:=zdc ax.out;have cG:=fun W (hW:Ext w4 W)=>(zkc.blk.ext hW).cell;have C0:∀ W,Ext w4 W->W.cell? ⟨g,k*3,none⟩=some (.int .i64 ed.fr):=fun W hW=>hW.aa (by rw [zkb.cellAt _ oM];exact d0);have C1:∀ W,Ext w4 W->W.cell? ⟨g,k*3+1,none⟩=some (.int .i64 ed.le):=fun W hW=>hW.aa (by rw [zkb.cellAt _ oM];exact d1);have C2:∀ W,Ext w4 W->W.cell? ⟨g,k*3+2,none⟩=some (.int .i64 ed.ta):=fun W hW=>hW.aa (by rw [zkb.cellAt _ oM];exact d2);clear C l d0 d1 d2;go_wp2_with fail
     refine tR (fun X=>Ext w4 X) [8,10] (Ord.of [0,1,2,3,4,5,6,7,8,9,10]) ?_;refine tQ ?_;refine zD fun K hK=>?_;go_simp;refine hK.out _ _ ((dB _).drew.alloc _) ?_;refine pT ?_;refine zP fun K hK=>?_;refine zaH w1 w4.drew _ _ _ rfl 152 _ 3 24 Tryz.underlying36 zbr rfl dM (.slice (some g) a.length c1) a.length (zw a) _ _ rfl rfl zkc.fr.size zkb rfl (by simp [Value.oneCell']) lM oM ?_;intro g5 cap5 E zkn hg5 hat5 hlt5;refine hK.out _ _ ?_;refine pT ?_;refine tQ ?_;obtain⟨h1,h2,h3⟩:=(zkc.ext ((dB _).drew)).push (e:=ed) (W':=E) zkn hg5 hat5;exact yA16a5
    ·have hn1:a.length=0:=oM;clear hn0;go_wp2_with fail
     go_meet;exact⟨_,_,_,a,zkc.more oM,oH HnL.out⟩
   ·subst t;have T:R<w1.heap.size:=by have:=zkc.hR;have:=zkc.hB;omega
    have cG:∀ W,Dr R w4 W->∀ q,W.cell? ⟨G,q,none⟩=#[Value.int .i64 al,.int .i64 st,.slice A1 a.length c1][q]?:=fun W hW=>(zkc.blk.dr hW (oH zkc.hG)).cell;go_wp2_with fail
    refine tR (fun X=>Dr R w4 X) [10,12] (Ord.of [0,1,2,4,6,3,5,7,8,9,10,11,12]) ?_;refine tQ ?_;refine zD fun K hK=>?_;go_simp;refine (zB (n:=4) (zkc.rd.ext (dB _).drew) oM).mono ?_;rintro e E ⟨x,rfl,-,-,m,f⟩;replace f:=((Dr.refl R w4).drew).trans f;refine hK.out _ _ f ?_;refine pT ?_;refine tQ ?_;refine zD fun K hK=>?_;go_simp;refine (zB (n:=3) m oM).mono ?_;rintro e w6 ⟨z,rfl,-,-,hr6,J⟩;replace J:=f.trans J;refine hK.out _ _ J ?_;refine pT ?_;refine tQ ?_;refine zD fun K hK=>?_;go_simp;refine (zB (n:=4) hr6 oM).mono ?_;rintro e w7 ⟨u,rfl,-,-,hr7,hd7⟩;replace hd7:=J.trans hd7;refine hK.out _ _ hd7 ?_;have o:=zkc.drawn hd7 hr7;refine pT ?_;refine tQ ?_;refine zD fun K hK=>?_;go_simp;refine hK.out _ _ (hd7.alloc _) ?_;refine pT ?_;refine zP fun K hK=>?_;refine zaH w1 w7 _ _ _ rfl 152 _ 3 24 Tryz.underlying36 zbr rfl dM (.slice A1 a.length c1) a.length (zw a) _ _ rfl rfl o.fr.size o.own rfl (by simp [Value.oneCell']) (by unfold maxLen;have:=HnL.out;omega) (oH HnL.out) ?_;intro g8 cap8 w8 hown8 hg8 hat8 hlt8;refine hK.out _ _ ?_;refine pT ?_;refine tQ ?_;obtain⟨h1,h2,h3⟩:=o.push (e:=⟨x,z,u⟩) (W':=w8) hown8 hg8 hat8;exact yA16a5
   ·have h0:((y:Int)==0)=false:=by simp;omega
    have h1:((y:Int)==1)=false:=by simp;omega
    have h2:((y:Int)==2)=false:=by simp;omega
    have h3:((y:Int)==3)=false:=by simp;omega
    have h4:((y:Int)==4)=false:=by simp;omega
    have h5:((y:Int)==5)=false:=by simp;omega
    have h6:((y:Int)==6)=false:=by simp;omega
    clear t;go_wp2_with fail
    go_meet;exact⟨_,_,_,a,zkc.more oM,oH HnL.out⟩
  case rest =>
   clear zkc;obtain⟨F,Q,v',S,zkc,ai⟩:=hcut;obtain⟨A',n',c',rfl⟩:=zkc.form;obtain⟨rfl,_⟩:=zkc.reads;have cG:=zkc.blk.cell;have af:=ad.out.frm zkc.fr oM;have cz:=af.cell;have aY:=ad.out.lt;have fz:=af.frozen;obtain⟨f1,f2,f3⟩:=zkc.fin (Z:=w.heap.size+1) oM oM (.int .i64 F) (.int .i64 Q) (.slice A' S.length c');have ae:=za (show RetA R (M+10) (L+1) w (.returned (.agg #[F,Q,.slice A' S.length c'])) _ from ⟨⟨F,Q,S⟩,A',S.length,c',rfl,f1,⟨ai,zjE zkc.own⟩,f2,f3⟩);clear f1 f2 f3;go_wp2_with fail
   exact bodyPost_ret (v:=.agg #[F,Q,.slice A' S.length c']) (by simp [results,Tryz.results167,go_sem,cz]) rfl ae.out
def lenAt (W:World) (G:Nat):Nat:=match W.cell? ⟨G,1,none⟩ with|some (.slice _ n _)=>n|_=>0
theorem zbT.lenAt {vA:Value} {rows:List Value}  (h:zbT w0 W R G M al (.slice A n c) rows ls vA acc):Go.Proofs.YtcfchopfijalpaaGreatDoor.lenAt W G=n:=by
 unfold Go.Proofs.YtcfchopfijalpaaGreatDoor.lenAt;rw [h.blk.cell 1];rfl
theorem yA16a8 {P:Prop}(h:P:=by
 have hn1:m=0:=oM;clear hn0;have cG:=zkc.blk.cell;go_wp2_with fail
 go_meet;exact⟨_,_,_,_,_,_,zkc.more oM,za (Hb.out.more oM)⟩
 ):P:=h
theorem zcj (h:Rd w R M)(hM:M<=900000000)(ho:zN w (R+1) A n c A' n' c' b)(hb:BdA L b)(hL:L<=100) :
  Calls Tryz.prog 168 #[.pointer (some R),.agg #[b.al,.slice A n c,.slice A' n' c']] w (zha R (M+10) (BdA (L+13)) w):=by
 have hRl:=h.lt;have aC:=hb.size oM
 go_enter Tryz.func168,Tryz.ntmps168
 have u:=(dB w).alloc (.cells #[b.al,.slice A n c,.slice A' n' c'] 31);have b0:=eP w 31 #[b.al,.slice A n c,.slice A' n' c'];have aW:(w.alloc (.cells #[b.al,.slice A n c,.slice A' n' c'] 31)).heap.size=w.heap.size+1:=sM;obtain⟨w1,U0⟩:∃ x,Hid ((w.alloc (.cells #[b.al,.slice A n c,.slice A' n' c'] 31)).alloc (.cells #[(0:Int),(),()] 31)=x):=⟨_,za rfl⟩;have V:=u.alloc (.cells #[(0:Int),(),()] 31);have bz:=eI U0.out;replace b0:=b0.ext ((dB _).alloc (.cells #[(0:Int),(),()] 31));rw [aW] at bz;have c0:=b0.cell;go_upto_region 1 with fail
 rw [U0.out] at *;have a0:=bz.lt;go_wp2_with fail
 refine (zeF (ho.ext V).reads aC).mono ?_;rintro e w2 ⟨B,m,d,B',m',d',rfl,zkb,am⟩;obtain⟨a,zkc⟩:=zbT.of (R:=R) (M:=M) zkb (h.ext (V.trans am)) am.dr oM;have hG:=am.size;have hm:m=b.next.length:=zkb.2.1;have bx:m<=100:=oH hb.1;have Hm:=za hm;have Hb:=za hb;clear zkb ho hm hb aC;go_upto_region 2 with fail
 generalize w2.alloc _=w3 at *;generalize w2.heap.size=G at *;have cG:=zkc.blk.cell;go_wp2_with fail
 refine (zB zkc.rd oM).mono ?_;rintro e w4 ⟨k,rfl,av,-,hr4,hd4⟩;replace zkc:=zkc.drawn hd4 hr4;have Hk:=za av;clear hd4 hr4 cG av;go_wp2_with fail
 refine (zB zkc.rd oM).mono ?_;rintro e D ⟨y,rfl,-,-,aB,aq⟩;replace zkc:=zkc.drawn aq aB;clear aq aB;go_upto_block 0 with fail
 go_cut [] (fun wx=>∃ (al:Int) (v:Value) (a:List Value) (C:List (List Int)) (vA:Value) (o:List Bool),zbT w1 wx R G (M+10) al v a C vA o∧Hid (BdL (L+13) C o))
 case first =>
  have ad:y=0∨y=1∨y=2∨y=3∨y=4∨y=5∨6<=y:=oM;rcases ad with I|I|I|I|I|I|I
  ·subst I;have Y:True:=trivial;go_wp2_with fail
   refine (zbb [64,(-1),1,63,0] 5 #[(64:Int),.int .i64 (-1),(1:Int),(63:Int),(0:Int)] rfl rfl oM oM zkc.rd oM).mono ?_;rintro e E ⟨x,-,rfl,hr6,Q⟩;replace zkc:=(zkc.ext ((dB _).alloc _)).drawn Q hr6;have cG:=zkc.blk.cell;have fG:=zkc.blk.frozen;go_wp2_with fail
   go_meet;exact⟨_,_,_,_,_,_,(zkc.setAl x).more oM,za (Hb.out.more oM)⟩
  ·subst I;have Y:True:=trivial;have cG:=zkc.blk.cell;have H:=zkc.dr.size;have hal:b.acc.length<=100:=oH Hb.out.2.1;go_wp2_with (at_builtin;refine zad w1 D rfl _ _ _ rfl 4 _ 1 1 Tryz.underlying26 zbh rfl dM (.slice B' m' d') b.acc.length (zah b.acc) _ _ rfl rfl H zkc.acc rfl (by simp [Value.oneCell']) lM oM ?_;intro g6 cap6 E hown6 hg6 hat6 hlt6;obtain⟨q1,q2,q3⟩:=zkc.av (x:=true) hown6 hg6 hat6;have a2:=q1.out)
   go_meet;exact⟨_,_,_,_,_,_,q3.more oM,za ⟨oH Hb.out.1,by have:=Hb.out.2.1;simp;omega,fun l z=>by have:=Hb.out.2.2 l z;omega⟩⟩
  ·subst I;have Y:True:=trivial
   by_cases hn0:0<m
   ·have hk:=Hk.out oM;have S:k<b.next.length:=oH Hm.out;obtain⟨l,z⟩:∃ l,b.next[k]?=some l:=⟨_,dE S⟩;obtain⟨gN,rfl,ar,-⟩:=zQ (show D.ownsRow w1.heap.size 128 1 (.slice B m d) m a from by have:=zkc.nx;rw [← Hm.out] at this;exact this) hn0;obtain⟨Z,J,hr,f,t⟩:=zkc.row z Hm.out;have aj:l.length<=100:=by have:=Hb.out.2.2 l (dC z);omega
    have HL:=za z;have HR:=za hr;have H:=zkc.dr.size;have cG:∀ W,Frm (fun b=>(Value.slice Z l.length J).ownBlock=some b) D W->∀ q,W.cell? ⟨G,q,none⟩=#[Value.int .i64 b.al,.slice (some gN) m d,.slice B' m' d'][q]?:=fun W hW=>(zkc.blk.frm hW (fun e=>zq t zkc.blk dM e rfl)).cell;have cN:∀ W,Frm (fun b=>(Value.slice Z l.length J).ownBlock=some b) D W->W.cell? ⟨gN,k,none⟩=some (.slice Z l.length J):=fun W hW=>by
     have hx:W.ownsRow w1.heap.size 128 1 (.slice (some gN) m d) b.next.length a:=zf zkc.nx hW (fun b hb hS=>zaz zkc.nx t dM hb hS);rw [← Hm.out] at hx;rw [hx.cellAt k oM,HR.out]
    have bj:Frm (fun b=>(Value.slice Z l.length J).ownBlock=some b) D D.drew:=(dB D).drew.aj;clear z hr f S;go_wp2_with fail
    refine tR (fun X=>Frm (fun b=>(Value.slice Z l.length J).ownBlock=some b) D X) [11] (Ord.of [0,1,2,3,4,5,6,7,8,9,10,11]) ?_;refine tQ ?_;refine zD fun K hK=>?_;go_simp;have ae:=(dB D).drew;refine hK.out _ _ (ae.alloc _).aj ?_;refine pT ?_;refine zD (fun K hK=>?_);refine zaH w1 D.drew _ _ _ rfl 3 _ 1 8 Tryz.underlying128 zaf rfl dM (.slice Z l.length J) l.length (ints l) _ _ rfl rfl H (zh t ae) rfl (by simp [Value.oneCell']) lM oM ?_;intro g6 cap6 E hown6 hg6 hat6 hlt6;obtain⟨q1,q2,q3,q4⟩:=(zkc.ext ae).growRow (x:=0) Hm.out HR.out HL.out hown6 hg6 hat6;have bC:=q2.out;refine hK.out _ _ (ae.aj.trans (fV hg6)) ?_;refine pT ?_;refine tQ ?_;refine zP fun K hK=>?_;go_simp;refine hK.out _ _ ?_;refine zag ?_;go_wp2_with fail
    go_meet;refine⟨_,_,_,_,_,_,q4.more oM,za ⟨by have:=Hb.out.1;rw [fN];omega,oH Hb.out.2.1,fun l' hl'=>?_⟩⟩;rcases fH hl' with h1|h1
    ·have:=Hb.out.2.2 l' h1;omega
    ·have:=Hb.out.2.2 l (dC HL.out);rw [h1];simp;omega
   ·exact yA16a8
  ·subst I;have Y:True:=trivial
   by_cases hn0:0<m
   ·have hk:=Hk.out oM;have S:k<b.next.length:=oH Hm.out;obtain⟨l,z⟩:∃ l,b.next[k]?=some l:=⟨_,dE S⟩;obtain⟨gN,rfl,ar,-⟩:=zQ (show D.ownsRow w1.heap.size 128 1 (.slice B m d) m a from by have:=zkc.nx;rw [← Hm.out] at this;exact this) hn0;obtain⟨Z,J,hr,f,t⟩:=zkc.row z Hm.out;have aj:l.length<=100:=by have:=Hb.out.2.2 l (dC z);omega
    have HL:=za z;have HR:=za hr;have aK:=za (Hb.out.2.2 l (dC z));clear z hr S;have cG:=zkc.blk.cell
    by_cases hl0:0<l.length
    ·obtain⟨gr,rfl,-,-⟩:=zQ t hl0;go_wp2_with fail
     refine (zB (n:=l.length) zkc.rd oM).mono ?_;rintro e E ⟨j,rfl,au,-,hr6,Q⟩;have bs:=au oM;replace zkc:=zkc.drawn Q hr6;have bq:=zkc.hR;have cN:∀ W,Dr R E W->W.cell? ⟨gN,k,none⟩=some (.slice (some gr) l.length J):=fun W hW=>(Q.trans hW).aa f (by simp;omega);have bA:IntKind.i64.wrap ((m:Int) - 1)=(m:Int) - 1:=by rw [IntKind.wrap_i64];omega
     clear cG au hr6 Q f t;have cG:∀ W,Dr R E W->∀ q,W.cell? ⟨G,q,none⟩=#[Value.int .i64 b.al,.slice (some gN) m d,.slice B' m' d'][q]?:=fun W hW=>(zkc.blk.dr hW (oH zkc.hG)).cell;go_wp2_with fail
     refine tR (fun X=>Dr R E X) [13] (Ord.of [0,1,2,3,4,5,6,7,8,9,10,11,12,13]) ?_;refine tQ ?_;refine zD fun K hK=>?_;go_simp;refine hK.out _ _ ((Dr.refl R E).drew.alloc _) ?_;refine pT ?_;refine zD fun K hK=>?_;go_simp;refine (zbb (w:=E.drew) [(-1),m,(m:Int) - 1,0] 4 #[.int .i64 (-1),m,.int .i64 ((m:Int) - 1),(0:Int)] rfl rfl oM oM (zkc.rd.ext (dB _).drew) oM).mono ?_;rintro e w7 ⟨x,-,rfl,hr7,hd7⟩;have af:Dr R E w7:=((Dr.refl R E).drew.alloc _).trans hd7;have O:=zkc.drawn af hr7;refine hK.out _ _ af ?_;refine pT ?_;refine tQ ?_;have zkb:=O.rows.2.1 k _ l HR.out HL.out;obtain⟨o0,c0⟩:=zaW zkb j oM;have f0:=zkb.frozenAt j;have hst:=O.setRow (k:=j) (x:=x) HR.out HL.out rfl;refine zP fun K hK=>?_;go_simp;refine hK.out _ _ ?_;refine zag ?_;go_wp2_with fail
     go_meet;refine⟨_,_,_,_,_,_,hst.more oM,za ⟨by have:=Hb.out.1;rw [fN];omega,oH Hb.out.2.1,fun l' hl'=>?_⟩⟩;rcases fH hl' with h1|h1
     ·have:=Hb.out.2.2 l' h1;omega
     ·rw [h1];simp;have:=aK.out;omega
    ·have bt:l.length=0:=oM;have bu:¬ ((l.length:Int)>0):=oM;go_wp2_with fail
     go_meet;exact⟨_,_,_,_,_,_,zkc.more oM,za (Hb.out.more oM)⟩
   ·exact yA16a8
  ·subst I;have Y:True:=trivial;have H:=zkc.dr.size;have p:=zkc.ext ((dB D).alloc (.cells #[] 128));have hn1:=World.ownsRow_lit (base:=w1.heap.size) (e:=128) (size:=1) D #[] 0 H lM rfl;have cG:=p.blk.cell;have fG:=p.blk.frozen;go_upto_region 18 with fail
   replace p:=p.setNext hn1;clear zkc cG fG hn1;generalize (D.alloc (.cells #[] 128)).setCell ⟨G,1,none⟩ (.slice (some D.heap.size) 0 0)=E at *;have aX:=p.dr.size;have F:=p.ext ((dB E).alloc (.cells #[] 4));have aV:=World.ownsRow_lit (base:=w1.heap.size) (e:=4) (size:=1) E #[] 0 aX lM rfl;have cG:=F.blk.cell;have fG:=F.blk.frozen;go_wp2_with fail
   go_meet;exact⟨_,_,_,_,_,_,(F.setMarks aV).more oM,za ⟨sM,sM,fun l z=>by simp at z⟩⟩
  ·subst I;have Y:True:=trivial
   by_cases hn0:0<m
   ·have a6:((m:Int)>0):=oM;have aA:m=b.next.length:=Hm.out;have bw:m<=L:=oH Hb.out.1;have hst:∃ (i:Nat) (v:Value) (a:List Value) (C:List (List Int)) (vA:Value) (o:List Bool),i<=13∧zbT w1 D R G (M+2) b.al v a C vA o∧Hid (C.length=m+i)∧Hid (i=0∨m+i<=13)∧Hid (o.length<=L+i)∧Hid (∀ l∈C,l.length<=L):=
     ⟨0,_,_,_,_,_,oM,zkc,za aA.symm,za (.inl rfl),za Hb.out.2.1,za Hb.out.2.2⟩
    clear aA zkc;go_wp2_with fail
    go_loopw [] (fun wr=>∃ (i:Nat) (v:Value) (a:List Value) (C:List (List Int)) (vA:Value) (o:List Bool),i<=13∧zbT w1 wr R G (M+2) b.al v a C vA o∧Hid (C.length=m+i)∧Hid (i=0∨m+i<=13)∧Hid (o.length<=L+i)∧Hid (∀ l∈C,l.length<=L)) (fun wr=>200 - lenAt wr G)
    case atStart=>exact hst
    case round =>
     clear hst;obtain⟨i,v,a,C,vA,o,hi,zkc,s,aT,hal,ai⟩:=hrel;obtain⟨gN,cN,rfl,ar⟩:∃ g c,v=.slice (some ⟨g,0,none⟩) (m+i) c∧w1.heap.size<=g:=by
      obtain⟨A9,c9,rfl⟩:=zi zkc.nx;obtain⟨g,rfl,hg,-⟩:=zQ zkc.nx (oH s.out);exact⟨g,c9,by rw [s.out],hg⟩
     have az:=za zkc.lenAt
     by_cases hlt:m+i<=12
     ·have ax:((m+i:Nat):Int)<=12:=oM;have ap:0<C.length:=oH s.out;obtain⟨l,z⟩:∃ l,C[0]?=some l:=⟨_,dE ap⟩;obtain⟨Z,J,hr,f,t⟩:=zkc.row z s.out.symm;have aj:l.length<=L:=ai.out l (dC z);have aL:=za aj;have aw:=za zkc.low;have H:=zkc.dr.size;have ag:=eN t;have aN:=za (fun W (hW:Ext wr W)=>ag.ext hW);have cG:=fun W (hW:Ext wr W)=>(zkc.blk.ext hW).cell;have aQ:∀ W,Ext wr W->W.cell? gN=some (.slice Z l.length J):=fun W hW=>hW.aa f;have aZ:=dB wr;have bk:(0:Int)<((m+i:Nat):Int):=oM;have bl:0<(m:Int)+(i:Int):=oM;clear z hr f t ag ap;go_upto_region 21 with fail
      refine uR (fun X=>Ext wr X) [9,11] (zy.of [0,1,3,4,5,6,2,7,8,9,10,11]) ?_;refine uQ ?_;have u:Ext wr wr.drew:=aZ.drew;generalize wr.drew=wd at *;refine ze fun K hK=>?_;go_simp;have hm:=World.ownsRow_made (base:=wr.heap.size) (e:=3) (size:=1) wd #[] 0 u.size (dG _) rfl;have V:=(dB wd).alloc (.cells #[] 3);replace u:=u.trans V;refine hK.out _ _ u ?_;generalize wd.alloc _=wm at *;generalize wd.heap.size=MM at *;refine pT ?_;refine uQ ?_;refine ze (fun K hK=>?_);refine zx wm _ _ 128 rfl wr.heap.size 3 _ 1 8 Tryz.underlying128 zaf rfl dM (.slice (some MM) 0 0) 0 [] rfl hm _ _ Z l.length J (ints l) rfl (aN.out _ u) (zhq _) lM oM u.size ?_;intro vR E hrow hgR hatR;rw [eJ,eX] at hrow;obtain⟨BR,dR,rfl⟩:=zi hrow;have U:Ext wr E:=u.grown hgR (fun k hk=>(hm.lt k hk).1);refine hK.out _ _ U ?_;refine pT ?_;refine uQ ?_;refine ze fun K hK=>?_;go_simp;refine hK.out _ _ (U.alloc _) ?_;refine pT ?_;refine zb fun K hK=>?_;have r:=zkc.ext U;have T:=r.nx;rw [s.out] at T;refine zaH w1 E _ _ _ rfl 128 _ 1 24 Tryz.underlying25 zct rfl dM (.slice (some gN) (m+i) cN) (m+i) a _ _ rfl rfl r.dr.size T rfl (zba _ _ _) lM oM ?_;intro g7 cap7 w7 hown7 hg7 hat7 hlt7;refine hK.out _ _ ?_;refine pT ?_;refine uQ ?_;obtain⟨p1,p2,p3⟩:=r.ax (l:=l) (W':=w7) (g:=g7) (cap:=cap7) aw.out H hrow (by rw [s.out];exact hown7) hg7 hat7;have a1:=p1.out;rw [s.out] at p3;refine zb fun K hK=>?_;go_simp;refine hK.out _ _ ?_;refine zg ?_;generalize w7.setCell ⟨G,1,none⟩ (.slice (some g7) (m+i+1) cap7)=w8 at *;have bf:=p3.blk.cell;have aY:=p3.dr.size;have a5:=hal.out;clear p1 a1 p2 cG aQ hown7 hg7 hat7 r zkc T;go_wp2_with (at_builtin;refine zad w1 w8 rfl _ _ _ rfl 4 _ 1 1 Tryz.underlying26 zbh rfl dM vA o.length (zah o) _ _ rfl rfl aY p3.acc rfl (by simp [Value.oneCell']) lM oM ?_;intro g9 cap9 w9 hown9 hg9 hat9 hlt9;obtain⟨q1,q2,q3⟩:=p3.av (x:=false) hown9 hg9 hat9;have a2:=q1.out)
      go_roundw
      case rel=>exact⟨i+1,oM,_,_,C++[l],_,o++[false],q3,za (by have:=s.out;simp;omega),za oM,za (by simp;omega),za (fun l' hl'=>by
       rcases List.mem_append.1 hl' with h1|h1
       ·exact ai.out l' h1
       ·rw [List.mem_singleton.1 h1];exact aL.out)⟩
      case measure=>have h1:=q3.lenAt;have h2:=az.out;omega
     ·have ax:¬ (((m+i:Nat):Int)<=12):=oM;have cG:=zkc.blk.cell;go_wp2_with fail
      go_meet;exact⟨_,_,_,_,_,_,zkc.more oM,za ⟨by have:=s.out;have:=aT.out;omega,oH hal.out,fun l' hl'=>by have:=ai.out l' hl';omega⟩⟩
   ·have hn1:m=0:=oM;clear hn0;have cG:=zkc.blk.cell;have hst:=zkc;clear zkc;go_wp2_with fail
    go_loopw [] (fun wr=>zbT w1 wr R G (M+1+1) b.al (.slice B m d) a b.next (.slice B' m' d') b.acc) (fun wr=>0)
    case atStart=>exact hst
    case round =>
     clear hst cG;have cG:=hrel.blk.cell;go_wp2_with fail
     go_meet;exact⟨_,_,_,_,_,_,hrel.more oM,za (Hb.out.more oM)⟩
  ·have bi:((y:Int)==0)=false:=by simp;omega
   have h1':((y:Int)==1)=false:=by simp;omega
   have bm:((y:Int)==2)=false:=by simp;omega
   have bn:((y:Int)==3)=false:=by simp;omega
   have bo:((y:Int)==4)=false:=by simp;omega
   have bp:((y:Int)==5)=false:=by simp;omega
   go_wp2_with fail
   go_meet;exact⟨_,_,_,_,_,_,zkc.more oM,za (Hb.out.more oM)⟩
 case rest =>
  clear zkc;obtain⟨al,v,a,C,vA,o,zkc,aS⟩:=hcut;obtain⟨A5,c5,rfl⟩:=zi zkc.nx;obtain⟨B5,d5,rfl⟩:=zi zkc.acc;obtain⟨f1,f2⟩:=zkc.fin (N:=M+10) (sh:=BdA (L+13)) V bz rfl hRl oM a0 oM aS.out;have bz5:=bz.dr zkc.dr oM;have cG:=zkc.blk.cell;have cZ:=bz5.cell;have fZ:=bz5.frozen;go_wp2_with fail
  have cf:=f2.cell;exact bodyPost_ret (v:=.agg #[al,.slice A5 C.length c5,.slice B5 o.length d5]) (by simp [results,Tryz.results168,go_sem,cf]) rfl f1.out
theorem yA16a3 {P:Prop}(h:P:=by
 go_wp2_with (at_builtin;refine zX w wr rfl _ _ _ rfl 9 _ 1 16 Tryz.underlying99 zr rfl dM u5 _ _ _ _ rfl rfl zkd zkb rfl (zcP _) lM oM ?_;intro v' w1 hext1 zkk hg1 hat1)
 go_roundw
 case rel=>exact⟨k+1,k+1,l++[s.extract m k],oM,gM,oM,gM,by simp;omega,by simpa [zM] using zkk,hall.out,aM⟩
 case measure=>simp [intOf];omega
 ):P:=h
theorem spec_l19CutC (hs:s.size<=1000000) :
  Calls Tryz.prog 250 #[s,.int .u8 44] w (RetStrs s.size (s.size+1) w):=by
 go_enter Tryz.func250,Tryz.ntmps250
 go_wp2_with fail
 go_loopw [5,6,7] (fun v f i wr=>∃ (k m:Nat) (l:List ByteArray),k<=s.size+1∧i=.int .i64 k∧m<=k∧f=.int .i64 m∧l.length<=k∧wr.ownsRow w.heap.size 9 1 v l.length (zM l)∧Hid (∀ x∈l,x.size<=s.size)∧Ext w wr) (fun _ _ i _=>s.size+1 - (intOf i).toNat)
 case atStart=>exact⟨0,0,[],dG _,rfl,dD _,rfl,dD _,World.ownsRow_lit w #[] 0 (dD _) lM rfl,(fun x hx=>by cases hx),(dB _).alloc _⟩
 case round =>
  obtain⟨k,m,l,o,rfl,q,rfl,p,zkb,a,zkd⟩:=hrel
  by_cases hle:k<=s.size
  ·have h:(k:Int)<=(s.size:Int):=oM;have j:(m:Int)<=(k:Int):=oM;have d:=za (show (s.extract m k).size<=s.size by rw [ByteArray.size_extract];omega);have hall:=za (show ∀ x∈l++[s.extract m k],x.size<=s.size from fun x hx=>by
    rcases List.mem_append.1 hx with h1|h1
    ·exact a.out x h1
    ·rw [List.mem_singleton.1 h1];exact d.out)
   by_cases he:k=s.size
   ·have b:((k:Int)==(s.size:Int))=true:=by simp [he]
    have n:=za he;clear he;exact yA16a3
   ·have b:((k:Int)==(s.size:Int))=false:=by rw [beq_eq_false_iff_ne];omega
    have g:k<s.size:=oM;have hb:=zcV s k g;cases hc:((s[k].toNat:Int)==44)
    ·go_wp2_with fail
     go_roundw
     case rel=>exact⟨k+1,m,l,oM,gM,oM,rfl,oM,zkb,a,zkd⟩
     case measure=>simp [intOf];omega
    ·exact yA16a3
  ·obtain rfl:k=s.size+1:=oM;obtain⟨A,c,rfl⟩:=zi zkb;go_wp2_with fail
   go_ret;exact⟨A,_,c,l,rfl,rfl,zkb,a.out,oM,zkd⟩
def RetIntsS (N:Nat) (w:World) (e:Ending) (w':World):Prop:=∃ (A:Option Addr) (n c:Nat) (l:List Int) (ok:Bool),e=.returned (.tuple #[.slice A n c,.bool ok])∧n=l.length∧w'.ownsRow w.heap.size 3 1 (.slice A n c) n (ints l)∧n<=N∧Ext w w'
theorem spec_l3Parse (hs:s.size<=1000) :
  Calls Tryz.prog 255 #[s] w (RetIntsS (s.size+1) w):=by
 have g:=World.ownsRow_lit (base:=w.heap.size) (e:=3) (size:=1) w #[] 0 (dD _) lM rfl
 go_enter Tryz.func255,Tryz.ntmps255
 go_upto_region 2 with fail
 obtain⟨K,hK⟩:∃ K,Hid (K=w.heap.size):=⟨_,za rfl⟩;rw [← hK.out] at g ⊢;generalize U0:w.alloc _=w1 at *;have r:=iQ U0;clear U0;cases he:s.toList.isEmpty
 ·go_wp2_with fail
  refine (spec_l19CutC (s:=s) oM).mono ?_;rintro e T ⟨B,m,d,l,rfl,o,t,n,J,c⟩;have q:=r.trans c;have h:=zh g c;have z:=za n;have M:=za o;have G:m<=s.size+1:=J;clear n o g he J;go_wp2_with fail
  go_loopw [4,6] (fun v iv wr=>∃ (k:Nat) (f:List Int),k<=m∧iv=.int .i64 (k:Nat)∧wr.ownsRow K 3 1 v k (ints f)∧Hid (f.length=k)∧wr.ownsRow w1.heap.size 9 1 (.slice B m d) m (zM l)∧Ext w wr) (fun _ iv _=>m - (intOf iv).toNat)
  case atStart=>exact⟨0,[],dG _,rfl,h,za rfl,t,q⟩
  case round =>
   clear h t q c;obtain⟨k,f,S,rfl,p,i,a,u⟩:=hrel;obtain⟨y,C,rfl⟩:=zi p
   by_cases hlt:k<m
   ·obtain⟨R,rfl,-,-⟩:=zQ a oM;obtain⟨Q,L,D,-,-,I,F⟩:=(eN a).str hlt;obtain rfl:=Option.some.inj D;rw [zS,eJ] at F;have E:=za (z.out L (dC I.out));go_wp2_with fail
    refine (zeB (s:=L) (oH E.out)).mono ?_;rintro e U ⟨x,O,rfl,rfl⟩;cases O
    ·go_wp2_with fail
     exact bodyPost_ret (v:=.tuple #[(),.bool false]) (by simp [results,Tryz.results255,go_sem]) rfl ⟨none,0,0,[],false,rfl,rfl,World.ownsRow_nil _ _ _ _,oM,u⟩
    ·have H:=u.size;go_wp2_with (at_builtin;refine zad w wr rfl _ _ _ rfl 3 _ 1 8 Tryz.underlying128 zaf rfl dM (.slice y k C) k (ints f) _ _ rfl rfl H (by rw [← hK.out];exact p) rfl (by simp [Value.oneCell']) lM oM ?_;intro g5 cap5 w5 zkn hg5 hat5 hlt5)
     go_roundw
     case rel=>exact⟨k+1,f++[x],oM,gM,by rw [hK.out];simpa [ints] using zkn,za (by have:=i.out;simp;omega),zf a (fV hg5) (fun b hb hS=>zaz a p dM hb hS),u.grown hg5 (fun j hj=>by have:=(p.lt j hj).1;have:=hK.out;omega)⟩
     case measure=>simp [intOf];omega
   ·obtain rfl:k=m:=oM;go_wp2_with fail
    exact bodyPost_ret (v:=.tuple #[.slice y k C,.bool true]) (by simp [results,Tryz.results255,go_sem]) rfl ⟨y,k,C,f,true,rfl,i.out.symm,by rw [← hK.out];exact p,G,u⟩
 ·go_wp2_with fail
  exact bodyPost_ret (v:=.tuple #[.slice (some K) 0 0,.bool true]) (by simp [results,Tryz.results255,go_sem]) rfl ⟨some ⟨w.heap.size,0,none⟩,0,0,[],true,by rw [hK.out],rfl,by rw [hK.out] at g;exact g,oM,r⟩
theorem autValid_few {a:Aut}(h:zj a=true):∃ al:Nat,a.al=al∧al<64∧1<=a.next.length∧a.next.length<=12∧a.acc.length=a.next.length∧∀ l∈a.next,l.length=(letters al 6).length∧∀ q∈l,0<=q∧q<a.next.length:=by
 simp only [zj,Bool.and_eq_true,decide_eq_true_eq,List.all_eq_true,rowB] at h;obtain⟨h1,b,h3,c⟩:=h;refine⟨a.al.toNat,oM,oM,b.1,b.2,h3,fun l hl=>⟨(c l hl).1,fun q hq=>(c l hl).2 q hq⟩⟩
def RetFmtA (a:Aut) (w:World) (e:Ending) (w':World):Prop:=∃ t:ByteArray,e=.returned (.string t)∧(zj a=false->t.size=0)∧Ext w w'
theorem zfs {lo hi:Nat}     {a:Aut} (h:zH w lo hi A n A' n' a) :
  Calls Tryz.prog 256 #[.agg #[a.al,.slice A n c,.slice A' n' c']] w (RetFmtA a w):=by
 have Z:=za (fun W (hW:Ext w W)=>zW lo hi A n c A' n' c' a W ⟨h.1.ext hW,h.2.1,h.2.2.ext hW⟩);cases h1:zj a
 ·have J:=za h1;clear h1 h
  go_enter Tryz.func256,Tryz.ntmps256
  go_wp2_with (go_at_call 200;refine (Z.out _ ((dB _).alloc _)).mono ?_;rw [J.out];rintro e w1 ⟨rfl,H⟩)
  go_ret;exact⟨_,rfl,fun _=>rfl,((dB _).alloc _).trans H⟩
 ·obtain⟨al,ha,L,hn1,R,M,b⟩:=autValid_few h1;have J:=za h1;have Hn:=za h.n1;have aj:=za h.n2;have Ha:=za ha;have f:=za b;have HS:=za (fun W (hW:Ext w W)=>h.1.ext hW);have HB:=za (fun W (hW:Ext w W)=>h.2.2.ext hW);have e1:n=n':=by have:=h.n1;have:=h.n2;omega
  subst e1;have au:n<=12:=oH h.n1;clear h1 ha hn1 R M b h
  go_enter Tryz.func256,Tryz.ntmps256
  go_wp2_with fail
  refine (Z.out _ ((dB _).alloc _)).mono ?_;rw [J.out];rintro e w1 ⟨rfl,H⟩;have b1:=zcM H;rw [Ha.out] at b1;have o:=((dB w).alloc _).trans H;have cb:=b1.cells;have V:=dB w1;clear H;go_wp2_with fail
  refine (zca L).mono ?_;rintro e w2 ⟨s,rfl,F,I⟩;go_wp2_with fail
  go_loopw [3,4] (fun v i wr=>∃ (k:Nat) (t:ByteArray),k<=n∧i=.int .i64 k∧v=.string t∧t.size<=20+100*k∧Ext w1 wr) (fun _ i _=>n - (intOf i).toNat)
  case atStart=>exact⟨0,s,dG _,rfl,rfl,oM,I⟩
  case round =>
   clear I F V;obtain⟨k,t,hk,rfl,rfl,ht,zkd⟩:=hrel;have C:=cb wr zkd
   by_cases hlt:k<n
   ·obtain⟨ad,Ak,ck,l,rfl,_,_,hl,g,E⟩:=(HS.out wr (o.trans zkd)).row hlt;obtain⟨ak,x,rfl,_,_,-,O⟩:=(HB.out wr (o.trans zkd)).bool hlt;have hq:=za (f.out l (dC hl.out));have aq:l.length<=6:=by have:=hq.out.1;have:=zF al 6;omega
    have B:=za (fun W (hW:Ext wr W)=>E.ext hW);have z:=za (fun W (hW:Ext wr W)=>hW.aa g);have y:=za (fun W (hW:Ext wr W)=>cb W (zkd.trans hW));have r:=dB wr;clear E;go_upto_if 24 with fail
    go_cut [5] (fun s5 wx=>∃ m:ByteArray,s5=.string m∧m.size=2∧Ext wr wx)
    case first =>
     cases x
     ·go_wp2_with fail
      go_meet;exact⟨{ data:=#[32,45] },rfl,rfl,r⟩
     ·go_wp2_with fail
      go_meet;exact⟨{ data:=#[32,43] },rfl,rfl,r⟩
    case rest =>
     clear g O C r;obtain⟨m,rfl,Q,p⟩:=hcut;obtain⟨Y,G⟩:∃ Y,Y=wr:=⟨_,rfl⟩;rw [← G] at B z y p zkd;clear G;have q0:¬ 9223372036854775807<t.size+m.size:=oM;have av:(t++m).size=t.size+2:=by rw [ByteArray.size_append,Q]
     go_upto_region 11 with fail
     generalize t++m=t1 at *;clear q0;go_wp2_with fail
     go_loopw [3,6] (fun v jv wr=>∃ (j:Nat) (t:ByteArray),j<=l.length∧jv=.int .i64 j∧v=.string t∧t.size<=22+100*k+10*j∧Ext Y wr) (fun _ jv _=>l.length - (intOf jv).toNat)
     case atStart=>exact⟨0,t1,dG _,rfl,rfl,oM,p⟩
     case round =>
      clear p;obtain⟨j,s,hj,rfl,rfl,F,d⟩:=hrel;have C:=y.out wr d;have g:=z.out wr d
      by_cases hjl:j<l.length
      ·obtain⟨am,q,rfl,-,-,U,ao⟩:=(B.out wr d).int hjl;obtain⟨S,T⟩:=hq.out.2 q (dC U.out);obtain⟨u,rfl⟩:∃ u:Nat,q=u:=⟨q.toNat,oM⟩;have hu:u<100:=oH Hn.out;clear S T;go_upto_if 39 with fail
       go_cut [3] (fun s3 wx=>∃ m:ByteArray,s3=.string m∧m.size<=s.size+1∧wx=wr)
       case first =>
        by_cases hj0:0<j
        ·have D:((j:Int)>0):=oM;have q1:¬ 9223372036854775807<s.size+1:=oM;go_wp2_with fail
         go_meet;exact⟨_,rfl,by rw [ByteArray.size_append];exact dD _,rfl⟩
        ·have D:¬ ((j:Int)>0):=oM;go_wp2_with fail
         go_meet;exact⟨s,rfl,oM,rfl⟩
       case rest =>
        obtain⟨m3,rfl,ar,rfl⟩:=hcut;go_wp2_with fail
        refine (zeA (n:=u) hu).mono ?_;rintro e w4 ⟨t4,rfl,aw,X⟩;have q2:¬ 9223372036854775807<m3.size+t4.size:=oM;go_wp2_with fail
        go_roundw
        case rel=>exact⟨j+1,_,oM,gM,rfl,by rw [ByteArray.size_append];omega,d.trans X⟩
        case measure=>simp [intOf];omega
      ·obtain rfl:j=l.length:=oM;go_wp2_with fail
       go_roundw
       case rel=>exact⟨k+1,s,oM,gM,rfl,oM,zkd.trans d⟩
       case measure=>simp [intOf];omega
   ·obtain rfl:n=k:=oM;go_wp2_with fail
    go_ret;have hv:=J.out;exact⟨t,rfl,fun h=>absurd (hv.symm.trans h) dM,o.trans zkd⟩
def RetStrs1 (L N:Nat) (w:World) (e:Ending) (w':World):Prop:=∃ (A:Option Addr) (n c:Nat) (l:List ByteArray),e=.returned (.slice A n c)∧n=l.length∧0<n∧w'.ownsRow w.heap.size 9 1 (.slice A n c) n (zM l)∧(∀ x∈l,x.size<=L)∧n<=N∧Ext w w'
theorem spec_l19Cut1 (hs:s.size<=1000000) :
  Calls Tryz.prog 250 #[s,.int .u8 32] w (RetStrs1 s.size (s.size+1) w):=by
 go_enter Tryz.func250,Tryz.ntmps250
 go_wp2_with fail
 go_loopw [5,6,7] (fun v f i wr=>∃ (k m:Nat) (l:List ByteArray),k<=s.size+1∧i=.int .i64 k∧m<=k∧f=.int .i64 m∧l.length<=k∧wr.ownsRow w.heap.size 9 1 v l.length (zM l)∧Hid (∀ x∈l,x.size<=s.size)∧Ext w wr∧Hid (s.size<k->0<l.length)) (fun _ _ i _=>s.size+1 - (intOf i).toNat)
 case atStart=>exact⟨0,0,[],dG _,rfl,dD _,rfl,dD _,World.ownsRow_lit w #[] 0 (dD _) lM rfl,(fun x hx=>by cases hx),(dB _).alloc _,za (fun hh=>absurd hh oM)⟩
 case round =>
  obtain⟨k,m,l,p,rfl,r,rfl,q,zkb,a,zkd,b⟩:=hrel
  by_cases hle:k<=s.size
  ·have j:(k:Int)<=(s.size:Int):=oM;have n:(m:Int)<=(k:Int):=oM;have g:=za (show (s.extract m k).size<=s.size by rw [ByteArray.size_extract];omega);have hall:=za (show ∀ x∈l++[s.extract m k],x.size<=s.size from fun x hx=>by
    rcases List.mem_append.1 hx with h1|h1
    ·exact a.out x h1
    ·rw [List.mem_singleton.1 h1];exact g.out)
   by_cases he:k=s.size
   ·have d:((k:Int)==(s.size:Int))=true:=by simp [he]
    have o:=za he;clear he;go_wp2_with (at_builtin;refine zX w wr rfl _ _ _ rfl 9 _ 1 16 Tryz.underlying99 zr rfl dM u5 _ _ _ _ rfl rfl zkd zkb rfl (zcP _) lM oM ?_;intro v' w1 hext1 zkk hg1 hat1)
    go_roundw
    case rel=>exact⟨k+1,k+1,l++[s.extract m k],oM,gM,oM,gM,by simp;omega,by simpa [zM] using zkk,hall.out,aM,za (fun _=>sM)⟩
    case measure=>simp [intOf];omega
   ·have d:((k:Int)==(s.size:Int))=false:=by rw [beq_eq_false_iff_ne];omega
    have h:k<s.size:=oM;have hb:=zcV s k h;cases hc:((s[k].toNat:Int)==32)
    ·go_wp2_with fail
     go_roundw
     case rel=>exact⟨k+1,m,l,oM,gM,oM,rfl,oM,zkb,a,zkd,za (fun hh=>absurd hh oM)⟩
     case measure=>simp [intOf];omega
    ·go_wp2_with (at_builtin;refine zX w wr rfl _ _ _ rfl 9 _ 1 16 Tryz.underlying99 zr rfl dM u5 _ _ _ _ rfl rfl zkd zkb rfl (zcP _) lM oM ?_;intro v' w1 hext1 zkk hg1 hat1)
     go_roundw
     case rel=>exact⟨k+1,k+1,l++[s.extract m k],oM,gM,oM,gM,by simp;omega,by simpa [zM] using zkk,hall.out,aM,za (fun _=>sM)⟩
     case measure=>simp [intOf];omega
  ·obtain rfl:k=s.size+1:=oM;obtain⟨A,c,rfl⟩:=zi zkb;go_wp2_with fail
   go_ret;exact⟨A,_,c,l,rfl,rfl,b.out oM,zkb,a.out,oM,zkd⟩
def RetParA (R M L:Nat) (w:World) (e:Ending) (w':World):Prop:=
 ∃ (b:Aut) (A:Option Addr) (n c:Nat) (A':Option Addr) (n' c':Nat) (ok:Bool),e=.returned (.tuple #[.agg #[b.al,.slice A n c,.slice A' n' c'],.bool ok])∧zN w' w.heap.size A n c A' n' c' b∧Hid (BdA L b)∧Rd w' R M∧Dr R w w'
theorem zjG (hR:R<w.heap.size)(h:Rd W R M)(hd:Dr R w W)(hZ:w.heap.size<=Z) :
  Hid (RetParA R M L w (.returned (.tuple #[.agg #[(0:Int),(),()],.bool false])) (((W.setCell Z (0:Int)).setCell ⟨Z,1,none⟩ ()).setCell ⟨Z,2,none⟩ ())):=
 za ⟨⟨0,[],[]⟩,none,0,0,none,0,0,false,rfl,⟨⟨[],World.ownsRow_nil _ _ _ _,zE.nil _ _⟩,rfl,World.ownsRow_nil _ _ _ _,rfl⟩,za ⟨dG _,dG _,fun l hl=>by simp at hl⟩,h.frm (zac W Z _ _ _) (fun k hk e=>oM),((hd.ag (p:=⟨Z,0,none⟩) hZ _).ag (p:=⟨Z,1,none⟩) hZ _).ag (p:=⟨Z,2,none⟩) hZ _⟩
theorem yA16a4 {P:Prop}(h:P:=by
 go_wp2_with fail
 have hfb:=zai bz4 rfl (.int .i64 0) (.slice none 0 0) (.slice none 0 0);have cf:=hfb.cell;exact bodyPost_ret (v:=.tuple #[.agg #[(0:Int),(),()],.bool false]) (by simp [results,Tryz.results192,go_sem,cf]) rfl hno4.out
 ):P:=h
theorem yA16a6 {P:Prop}(h:P:=by
 have cf:=hfb.cell;exact bodyPost_ret (v:=.tuple #[.agg #[(0:Int),(),()],.bool false]) (by simp [results,Tryz.results192,go_sem,cf]) rfl hno.out
 ):P:=h
theorem zdq {x:ByteArray} (h:Rd w R M)(hx:x.size<=1000) :
  Calls Tryz.prog 192 #[x] w (RetParA R M (x.size+1) w):=by
 have hRl:=h.lt
 go_enter Tryz.func192,Tryz.ntmps192
 go_wp2_with fail
 generalize U0:w.alloc _=w0 at *;have n:=iQ U0;have bz:=eI U0;have aS:=bz.lt;clear U0;refine (spec_l19Cut1 (s:=x) oM).mono ?_;rintro e w1 ⟨B,m,d,l,rfl,ao,aa,zkk,u,hm,aR⟩;have aB:=za u;have bd:=za ao;have bA:m<=1001:=oM;clear u ao;obtain⟨gB,rfl,bu,-⟩:=zQ zkk aa;obtain⟨ad,x0,V,-,-,a7,aj⟩:=(eN zkk).str (k:=0) aa;obtain rfl:=Option.some.inj V;rw [zS,Nat.add_zero] at aj;have a6:(0:Int)<(m:Int):=oM;go_wp2_with fail
 refine (zdK (x:=x0)).mono ?_;rintro e w2 ⟨al,aU,rfl,ha,au⟩;have t:=aR.trans au;have U:=bz.ext t;have aC:=U.cell;have aD:=U.frozen;have hno:=zjG (L:=x.size+1) (M:=M) (Z:=w.heap.size) hRl (h.ext (n.trans t)) (n.trans t).dr (dD _);cases aU
 ·go_wp2_with fail
  have hfb:=zai U rfl (.int .i64 0) (.slice none 0 0) (.slice none 0 0);exact yA16a6
 ·have bG:=eP w2 31 #[al,(),()];have ab:=(dB w2).alloc (.cells #[al,(),()] 31);have aO:=t.size;have ay:=zh zkk au;have bs:=za (show ∀ W,Ext w2 W->Ext w W from fun W hW=>(n.trans t).trans hW);go_upto_region 6 with fail
  have az:=zh ay ab;have zkc:zbT w0 (w2.alloc (.cells #[al,(),()] 31)) R w2.heap.size M al (.slice none 0 0) [] [] (.slice none 0 0) []:=⟨bG,World.ownsRow_nil _ _ _ _,zE.nil _ _,World.ownsRow_nil _ _ _ _,(h.ext (n.trans t)).ext ab,(t.trans ab).dr,oM,aO⟩;generalize w2.alloc _=w3 at *;generalize w2.heap.size=G at *;clear hno aC aD aj ay;go_wp2_with fail
  go_loopw [8] (fun iv wr=>∃ (i:Nat) (v:Value) (p:List Value) (j:List (List Int)) (vA:Value) (f:List Bool),1<=i∧i<=m∧iv=.int .i64 (i:Nat)∧zbT w0 wr R G M al v p j vA f∧Hid (j.length<=i - 1)∧Hid (f.length=j.length)∧Hid (∀ l∈j,l.length<=x.size+1)∧wr.ownsRow w0.heap.size 9 1 (.slice (some gB) m d) m (zM l)) (fun iv _=>m - (intOf iv).toNat)
  case atStart=>exact⟨1,_,_,[],_,[],dD _,aa,rfl,zkc,za (dG _),za rfl,za (fun l hl=>by simp at hl),az⟩
  case round =>
   clear zkc az;obtain⟨i,v,p,j,vA,f,bw,hi,rfl,zkc,E,hal,u,F⟩:=hrel;have hno:=zjG (L:=x.size+1) (M:=M) (Z:=w.heap.size) hRl zkc.rd (n.dr.trans zkc.dr) (dD _);have C:=bz.dr zkc.dr oM
   by_cases hlt:i<m
   ·obtain⟨ad,z,V,-,-,av,ak⟩:=(eN F).str hlt;obtain rfl:=Option.some.inj V;rw [zS,eJ] at ak;have br:=aB.out z (dC av.out);cases Y:z.toList.isEmpty
    ·have bo:1<=z.size:=by
      rcases Nat.eq_zero_or_pos z.size with h0|h0
      ·rw [ByteArray.toList_eq] at Y;have e2:z.data.toList.length=z.size:=rfl;rw [List.eq_nil_of_length_eq_zero (e2.trans h0)] at Y;cases Y
      ·exact h0
     have a4:(1:Int)<=(z.size:Int):=oM;have bt:(z.extract 1 z.size).size<=x.size:=by rw [ByteArray.size_extract];omega
     go_wp2_with fail
     refine (spec_l3Parse (s:=z.extract 1 z.size) oM).mono ?_;rintro e w4 ⟨Ar,nr,cr,lr,ok,rfl,aK,aq,bB,g⟩;cases ok
     ·have hno4:=zjG (L:=x.size+1) (M:=M) (Z:=w.heap.size) hRl (zkc.rd.ext g) ((n.dr.trans zkc.dr).ext g) (dD _);have bz4:=C.ext g;have cz:=bz4.cell;have fz:=bz4.frozen;exact yA16a4
     ·subst aK;have am:=za zkc.low;have aN:=za zkc.dr.size;have c:=zkc.ext g;have q:=zh F g;have cG:=c.blk.cell;have aP:=c.dr.size;have bx:j.length<=1001:=oH E.out;have ah:=za av.out;have ap:=hno;clear zkc F ak hno ap;go_upto_region 15 with (at_builtin;refine zad w0 w4 rfl _ _ _ rfl 128 _ 1 24 Tryz.underlying25 zct rfl dM v j.length p _ _ rfl rfl aP c.nx rfl (zba _ _ _) lM oM ?_;intro g5 cap5 w6 hown6 hg6 hat6 hlt6;obtain⟨q1,q2,q3⟩:=c.ax am.out aN.out aq hown6 hg6 hat6;have aV:=q1.out;have r:=(zf q (fV hg6) (fun b hb hS=>zaz q c.nx dM hb hS)))
      have H:=zf r (dF w6 G 1 (.slice (some g5) (j.length+1) cap5)) (fun b hb hS=>by
       have aG:Blk w6 G 31 #[.int .i64 al,v,vA]:=(hg6.block G c.blk.lt (fun e=>zq c.nx c.blk dM e.symm rfl)).trans c.blk;exact zq r aG dM hb hS)
      have S:=za (show (j++[lr]).length<=i by have:=E.out;simp;omega);have Q:=za (show f.length+1=(j++[lr]).length by have:=hal.out;simp;omega);have an:=za (show ∀ l'∈j++[lr],l'.length<=x.size+1 from fun l' hl'=>by
       rcases List.mem_append.1 hl' with h1|h1
       ·exact u.out l' h1
       ·rw [List.mem_singleton.1 h1];omega)
      clear q1 aV q2 hown6 hg6 hat6 hlt6 r q c cG E hal u aq;generalize j++[lr]=aT at *;generalize p++[.slice Ar lr.length cr]=aX at *;generalize w6.setCell ⟨G,1,none⟩ (.slice (some g5) (j.length+1) cap5)=w7 at *;generalize Value.slice (some g5) (j.length+1) cap5=v7 at *;obtain⟨bf,y,ai,-,-,T,D⟩:=(eN H).str hlt;obtain rfl:=Option.some.inj ai;rw [zS,eJ] at D;obtain rfl:y=z:=Option.some.inj (T.out.symm.trans ah.out);have cG:=fun W (hW:Ext w7 W)=>(q3.blk.ext hW).cell;have cS:∀ W,Ext w7 W->W.cell? ⟨gB,i,none⟩=some (.string y):=fun W hW=>hW.aa D;have aF:0<y.size:=oM;have a3:(0:Int)<(y.size:Int):=oM;have bp:=zcV y 0 aF;obtain⟨bb,bq⟩:∃ bb,((y[0].toNat:Int)==43)=bb:=⟨_,rfl⟩;have aQ:=dB w7;clear D T ah;refine uR (fun X=>Ext w7 X) [9,11] (zy.of [0,1,2,3,4,5,6,7,8,9,10,11]) ?_;refine uQ ?_;have ae:=aQ.drew;refine ze fun K hK=>?_;go_simp;refine hK.out _ _ (ae.alloc _) ?_;refine pT ?_;refine zb fun K hK=>?_;have bC:=q3.dr.size;have o:=q3.ext ae;have a5:f.length<=1001:=by have:=Q.out;have:=S.out;omega
      have I:=zh H ae;refine zaH w0 w7.drew _ _ _ rfl 4 _ 1 1 Tryz.underlying26 zbh rfl dM vA f.length (zah f) _ _ rfl rfl o.dr.size o.acc rfl (by simp [Value.oneCell']) lM oM ?_;intro g8 cap8 w8 hown8 hg8 hat8 hlt8;refine hK.out _ _ ?_;refine pT ?_;refine uQ ?_;obtain⟨p1,p2,p3⟩:=o.av (x:=bb) (W':=w8) hown8 hg8 hat8;have bI:=p1.out;have J:=zf I (fV hg8) (fun b hb hS=>zaz I o.acc dM hb hS);have O:=zf J (dF w8 G 2 (.slice (some g8) (f.length+1) cap8)) (fun b hb hS=>by
       have aH:Blk w8 G 31 #[.int .i64 al,v7,vA]:=(hg8.block G o.blk.lt (fun e=>zq o.acc o.blk dM e.symm rfl)).trans o.blk;exact zq J aH dM hb hS)
      refine zb fun K hK=>?_;go_simp;refine hK.out _ _ ?_;refine zg ?_;go_wp2_with fail
      go_roundw
      case rel=>exact⟨i+1,_,_,aT,_,f++[bb],oM,oM,gM,p3,za (oH S.out),za (by have:=Q.out;simp;omega),an,O⟩
      case measure=>simp [intOf];omega
    ·have cz:=C.cell;have fz:=C.frozen;go_wp2_with fail
     have hfb:=zai C rfl (.int .i64 0) (.slice none 0 0) (.slice none 0 0);exact yA16a6
   ·obtain⟨A5,c5,rfl⟩:=zi zkc.nx;obtain⟨B5,d5,rfl⟩:=zi zkc.acc;have aI:zH wr w0.heap.size wr.heap.size A5 j.length B5 f.length (⟨al,j,f⟩:Aut):=⟨zfR.reads ⟨p,zkc.nx,zkc.rows⟩ rfl,rfl,eN zkc.acc⟩;have cG:=zkc.blk.cell;clear hno;go_wp2_with fail
    refine (zfs (a:=⟨al,j,f⟩) aI).mono ?_;rintro e w4 ⟨tx,rfl,-,g⟩;have c:=zkc.ext g;have hno4:=zjG (L:=x.size+1) (M:=M) (Z:=w.heap.size) hRl (zkc.rd.ext g) ((n.dr.trans zkc.dr).ext g) (dD _);have bz4:=C.ext g;have cz:=bz4.cell;have fz:=bz4.frozen;have bk:=c.blk.cell;clear cG;cases hne:tx.toList==x.toList
    ·exact yA16a4
    ·obtain⟨f1,f2⟩:=c.fin (N:=M) (sh:=BdA (x.size+1)) n bz rfl hRl (dD _) aS (dD _) ⟨by have:=E.out;show j.length<=_;omega,by have:=E.out;have:=hal.out;show f.length<=_;omega,u.out⟩;go_wp2_with fail
     have cf:=f2.cell;obtain⟨b,A6,n6,c6,A7,n7,c7,Y,aL,ar,hr6,aJ⟩:=f1.out;exact bodyPost_ret (v:=.tuple #[.agg #[al,.slice A5 j.length c5,.slice B5 f.length d5],.bool true]) (by simp [results,Tryz.results192,go_sem,cf]) rfl ⟨b,A6,n6,c6,A7,n7,c7,true,by injection Y with Y;rw [Y],aL,ar,hr6,aJ⟩
theorem zjP (h:Rd w R M)(hM:M<=900000000)(ho:zN w (R+1) A n c A' n' c' b)(hb:BdA L b)(hL:L<=100) :
  Calls Tryz.prog 194 #[.pointer (some R),.agg #[b.al,.slice A n c,.slice A' n' c']] w (zha R (M+10) (BdA (L+1)) w):=by
 have hRl:=h.lt;have ar:=hb.size oM
 go_enter Tryz.func194,Tryz.ntmps194
 have o:=(dB w).alloc (.cells #[b.al,.slice A n c,.slice A' n' c'] 31);have b0:=eP w 31 #[b.al,.slice A n c,.slice A' n' c'];have aT:(w.alloc (.cells #[b.al,.slice A n c,.slice A' n' c'] 31)).heap.size=w.heap.size+1:=sM;obtain⟨w1,U0⟩:∃ x,Hid ((w.alloc (.cells #[b.al,.slice A n c,.slice A' n' c'] 31)).alloc (.cells #[(0:Int),(),()] 31)=x):=⟨_,za rfl⟩;have t:=o.alloc (.cells #[(0:Int),(),()] 31);have bz:=eI U0.out;replace b0:=b0.ext ((dB _).alloc (.cells #[(0:Int),(),()] 31));rw [aT] at bz;have c0:=b0.cell;go_upto_region 1 with fail
 rw [U0.out] at *;have aw:=bz.lt;go_wp2_with fail
 refine (zeF (ho.ext t).reads ar).mono ?_;rintro e w2 ⟨B,m,d,B',m',d',rfl,zkb,Z⟩;obtain⟨f,zkc⟩:=zbT.of (R:=R) (M:=M) zkb (h.ext (t.trans Z)) Z.dr oM;have hG:=Z.size;have hm:m=b.next.length:=zkb.2.1;have aR:m'=b.acc.length:=zkb.2.2.2;have bt:m<=100:=oH hb.1;have H:=za hm;have Hb:=za hb;subst aR;clear zkb ho hm hb ar;go_upto_region 2 with fail
 generalize w2.alloc _=w3 at *;generalize w2.heap.size=G at *;have cG:=zkc.blk.cell
 by_cases hm0:m=0
 ·subst hm0;have ad:=zkc;rw [show (Value.slice B' b.acc.length d')=Value.slice B' b.acc.length d' from rfl] at ad;obtain⟨f1,f2⟩:=ad.fin (N:=M+10) (sh:=BdA (L+1)) t bz rfl hRl oM aw oM (Hb.out.more oM);have bz5:=bz.dr zkc.dr oM;have cZ:=bz5.cell;have fZ:=bz5.frozen;clear ad;go_wp2_with fail
  have cf:=f2.cell;exact bodyPost_ret (v:=.agg #[b.al,.slice B 0 d,.slice B' b.acc.length d']) (by simp [results,Tryz.results194,go_sem,cf]) rfl f1.out
 have aS:((m:Int)==0)=false:=by simp;omega
 go_wp2_with fail
 refine (zB zkc.rd oM).mono ?_;rintro e w4 ⟨k,rfl,aj,-,hr4,hd4⟩;replace zkc:=zkc.drawn hd4 hr4;have bp:k<m:=by have:=aj oM;omega
 clear hd4 hr4 cG aj aS;go_wp2_with fail
 refine (zB zkc.rd oM).mono ?_;rintro e a ⟨y,rfl,-,-,aq,ai⟩;replace zkc:=zkc.drawn ai aq;clear ai aq;go_upto_block 0 with fail
 go_cut [] (fun wx=>∃ (v:Value) (f:List Value) (ls:List (List Int)) (vA:Value) (I:List Bool),zbT w1 wx R G (M+10) b.al v f ls vA I∧Hid (BdL (L+1) ls I))
 case first =>
  have am:k<b.next.length:=oH H.out;obtain⟨l,hl⟩:∃ l,b.next[k]?=some l:=⟨_,dE am⟩;obtain⟨gN,rfl,bn,-⟩:=zQ (show a.ownsRow w1.heap.size 128 1 (.slice B m d) m f from by have:=zkc.nx;rw [← H.out] at this;exact this) oM;obtain⟨Ar,cr,hr,s,E⟩:=zkc.row hl H.out;have bs:l.length<=100:=by have:=Hb.out.2.2 l (dC hl);omega
  have HL:=za hl;have HR:=za hr;have U:=za (Hb.out.2.2 l (dC hl));have aU:=zkc.dr.size;clear hl hr am;have O:y=0∨y=1∨y=2∨3<=y:=oM;rcases O with hy|hy|hy|hy
  ·subst hy;have av:True:=trivial;have cG:=fun W (hW:Ext a W)=>(zkc.blk.ext hW).cell
   by_cases hka:k<b.acc.length
   ·obtain⟨V,rfl,aO,-⟩:=zQ zkc.acc oM;obtain⟨x,hx⟩:∃ x,b.acc[k]?=some x:=⟨_,dE hka⟩;have C:a.cell? ⟨V,k,none⟩=some (.bool x):=by rw [zkc.acc.cellAt k oM];simp [zah,hx]
    have cA:∀ W,Ext a W->W.cell? ⟨V,k,none⟩=some (.bool x):=fun W hW=>hW.aa C;have fA:∀ W,Ext a W->W.frozen? ⟨V,k,none⟩=false:=fun W hW=>(zh zkc.acc hW).frozenAt k;have hst:=(zkc.ext (dB a).drew).setAcc (i:=k) (x:=!x) rfl;have ak:(k:Int)<(b.acc.length:Int):=oM;have F:=dB a;clear C hx;go_wp2_with fail
    refine tR (fun X=>Ext a X) [10] (Ord.of [0,1,2,3,4,5,6,7,8,9,10]) ?_;refine tQ ?_;refine zP fun K hK=>?_;go_simp;refine hK.out _ _ ?_;refine zag ?_;go_wp2_with fail
    go_meet;exact⟨_,_,_,_,_,hst.more oM,za ⟨oH Hb.out.1,by have:=Hb.out.2.1;rw [fN];omega,fun l' hl'=>by have:=Hb.out.2.2 l' hl';omega⟩⟩
   ·have ak:¬ ((b.acc.length:Int)>(k:Int)):=oM;have F:=dB a;go_wp2_with fail
    go_meet;exact⟨_,_,_,_,_,zkc.more oM,za (Hb.out.more oM)⟩
  ·subst hy;have av:True:=trivial
   by_cases hl0:0<l.length
   ·obtain⟨gr,rfl,-,-⟩:=zQ E hl0;have bl:=zkc.hR;have cN:∀ W,Dr R a W->W.cell? ⟨gN,k,none⟩=some (.slice (some gr) l.length cr):=fun W hW=>hW.aa s (by simp;omega);have cG:∀ W,Dr R a W->∀ q,W.cell? ⟨G,q,none⟩=#[Value.int .i64 b.al,.slice (some gN) m d,.slice B' b.acc.length d'][q]?:=fun W hW=>(zkc.blk.dr hW (oH zkc.hG)).cell;have bm:=Dr.refl R a;clear s E;go_wp2_with fail
    refine tR (fun X=>Dr R a X) [17] (Ord.of [0,1,2,3,4,5,6,7,8,9,10,11,13,14,12,15,16,17]) ?_;refine tQ ?_;refine zD fun K hK=>?_;go_simp;refine (zB (n:=l.length) (zkc.rd.ext (dB _).drew) oM).mono ?_;rintro e w6 ⟨j,rfl,aP,-,hr6,aN⟩;have bo:=aP oM;have Q:Dr R a w6:=(Dr.refl R a).drew.trans aN;refine hK.out _ _ Q ?_;refine pT ?_;refine tQ ?_;refine zD fun K hK=>?_;go_simp;refine (zB (n:=m) hr6 oM).mono ?_;rintro e w7 ⟨x,rfl,a5,-,hr7,hd7⟩;have S:Dr R a w7:=Q.trans hd7;have z:=zkc.drawn S hr7;refine hK.out _ _ S ?_;refine pT ?_;refine tQ ?_;have zkb:=z.rows.2.1 k _ l HR.out HL.out;obtain⟨o0,c0⟩:=zaW zkb j oM;have f0:=zkb.frozenAt j;have hst:=z.setRow (k:=j) (x:=x) HR.out HL.out rfl;refine zP fun K hK=>?_;go_simp;refine hK.out _ _ ?_;refine zag ?_;go_wp2_with fail
    go_meet;refine⟨_,_,_,_,_,hst.more oM,za ⟨by have:=Hb.out.1;rw [fN];omega,oH Hb.out.2.1,fun l' hl'=>?_⟩⟩;rcases fH hl' with h1|h1
    ·have:=Hb.out.2.2 l' h1;omega
    ·rw [h1];simp;have:=U.out;omega
   ·have bq:l.length=0:=oM;have br:¬ ((l.length:Int)>0):=oM;have cG:=zkc.blk.cell;go_wp2_with fail
    go_meet;exact⟨_,_,_,_,_,zkc.more oM,za (Hb.out.more oM)⟩
  ·subst hy;have av:True:=trivial;have cG:=fun W (hW:Ext a W)=>(zkc.blk.ext hW).cell;have aJ:∀ W,Ext a W->W.cell? ⟨gN,k,none⟩=some (.slice Ar l.length cr):=fun W hW=>hW.aa s;have F:=dB a
   by_cases h1:12<=m
   ·have h1':¬ ((m:Int)<12):=oM;go_wp2_with fail
    go_meet;exact⟨_,_,_,_,_,zkc.more oM,za (Hb.out.more oM)⟩
   have h1':(m:Int)<12:=oM
   by_cases h2:b.acc.length<=k
   ·have ah:¬ ((b.acc.length:Int)>(k:Int)):=oM;go_wp2_with fail
    go_meet;exact⟨_,_,_,_,_,zkc.more oM,za (Hb.out.more oM)⟩
   have ah:(b.acc.length:Int)>(k:Int):=oM
   by_cases h3:l.length<=0
   ·have bk:¬ ((l.length:Int)>0):=oM;have a1:l.length=0:=oM;go_wp2_with fail
    go_meet;exact⟨_,_,_,_,_,zkc.more oM,za (Hb.out.more oM)⟩
   have a2:=za zkc.lenAt;have T:=eN E;have aG:=za (fun W (hW:Ext a W)=>T.ext hW);have ao:=za zkc.low;have a3:=za E;clear s E T;go_upto_region 15 with fail
   refine uR (fun X=>Ext a X) [10,12] (zy.of [0,1,3,4,5,6,7,2,8,9,10,11,12]) ?_;refine uQ ?_;have o:Ext a a.drew:=F.drew;generalize a.drew=wd at *;refine ze fun K hK=>?_;go_simp;have hm:=World.ownsRow_made (base:=a.heap.size) (e:=3) (size:=1) wd #[] 0 o.size (dG _) rfl;have t:=(dB wd).alloc (.cells #[] 3);replace o:=o.trans t;refine hK.out _ _ o ?_;generalize wd.alloc _=wm at *;generalize wd.heap.size=MM at *;refine pT ?_;refine uQ ?_;refine ze (fun K hK=>?_);refine zx wm _ _ 128 rfl a.heap.size 3 _ 1 8 Tryz.underlying128 zaf rfl dM (.slice (some MM) 0 0) 0 [] rfl hm _ _ Ar l.length cr (ints l) rfl (aG.out _ o) (zhq _) lM oM o.size ?_;intro vR w6 hrow hgR hatR;rw [eJ,eX] at hrow;obtain⟨BR,dR,rfl⟩:=zi hrow;have u:Ext a w6:=o.grown hgR (fun k hk=>(hm.lt k hk).1);refine hK.out _ _ u ?_;refine pT ?_;refine uQ ?_;refine ze fun K hK=>?_;go_simp;refine hK.out _ _ (u.alloc _) ?_;refine pT ?_;refine zb fun K hK=>?_;have p:=zkc.ext u;have D:=p.nx;rw [← H.out] at D;refine zaH w1 w6 _ _ _ rfl 128 _ 1 24 Tryz.underlying25 zct rfl dM (.slice (some gN) m d) m f _ _ rfl rfl p.dr.size D rfl (zba _ _ _) lM oM ?_;intro g7 cap7 w7 hown7 hg7 hat7 hlt7;refine hK.out _ _ ?_;refine pT ?_;refine uQ ?_;obtain⟨p1,p2,p3⟩:=p.ax (l:=l) (W':=w7) (g:=g7) (cap:=cap7) ao.out aU hrow (by rw [← H.out];exact hown7) hg7 hat7;have aV:=p1.out;rw [← H.out] at p3;refine zb fun K hK=>?_;go_simp;refine hK.out _ _ ?_;refine zg ?_;generalize w7.setCell ⟨G,1,none⟩ (.slice (some g7) (m+1) cap7)=w8 at *;have bu:=p3.dr.size;clear p1 aV p2 cG aJ hown7 hg7 hat7 p zkc D u o t;obtain⟨V,rfl,aO,-⟩:=zQ p3.acc oM;obtain⟨x,hx⟩:∃ x,b.acc[k]?=some x:=⟨_,dE oM⟩;have C:w8.cell? ⟨V,k,none⟩=some (.bool x):=by rw [p3.acc.cellAt k oM];simp [zah,hx]
   have cA:∀ W,Ext w8 W->W.cell? ⟨V,k,none⟩=some (.bool x):=fun W hW=>hW.aa C;have aI:=fun W (hW:Ext w8 W)=>(p3.blk.ext hW).cell;have F:=dB w8;clear C hx;go_upto_region 16 with fail
   refine uR (fun X=>Ext w8 X) [8,10] (zy.of [0,1,2,3,4,5,6,7,8,9,10]) ?_;refine uQ ?_;have aa:Ext w8 w8.drew:=F.drew;generalize w8.drew=aY at *;refine ze fun K hK=>?_;go_simp;refine hK.out _ _ (aa.alloc _) ?_;refine pT ?_;refine zb fun K hK=>?_;have r:=p3.ext aa;refine zaH w1 aY _ _ _ rfl 4 _ 1 1 Tryz.underlying26 zbh rfl dM (.slice (some V) b.acc.length d') b.acc.length (zah b.acc) _ _ rfl rfl r.dr.size r.acc rfl (by simp [Value.oneCell']) (by unfold maxLen;have:=Hb.out.2.1;omega) (oH Hb.out.2.1) ?_;intro g9 cap9 w9 hown9 hg9 hat9 hlt9;refine hK.out _ _ ?_;refine pT ?_;refine uQ ?_;obtain⟨q1,q2,q3⟩:=r.av (x:=x) hown9 hg9 hat9;have aW:=q1.out;refine zb fun K hK=>?_;go_simp;refine hK.out _ _ ?_;refine zg ?_;generalize w9.setCell ⟨G,2,none⟩ (.slice (some g9) (b.acc.length+1) cap9)=aX at *;clear q1 aW q2 aI cA r p3 hown9 hg9 hat9 aa;have aQ:k<f.length:=by have:=q3.rows.1;simp at this;have:=H.out;omega
   have J:(f++[Value.slice BR l.length dR])[k]?=some (.slice Ar l.length cr):=by rw [eB aQ];exact HR.out
   have Y:(b.next++[l])[k]?=some l:=by rw [eB (oH H.out)];exact HL.out
   have zkb:=q3.rows.2.1 k _ l J Y;obtain⟨gr,rfl,-,-⟩:=zQ zkb oM;obtain⟨o0,c0⟩:=zaW zkb 0 oM;have f0:=zkb.frozenAt 0;have hst:=q3.setRow (k:=0) (x:=m) J Y rfl;have cG:=q3.blk.cell;have cN:aX.cell? ⟨g7,k,none⟩=some (.slice (some gr) l.length cr):=by
    have:=q3.nx;rw [List.length_append,List.length_singleton,← H.out] at this;rw [this.cellAt k oM];exact J
   clear zkb J Y;go_wp2_with fail
   go_meet;refine⟨_,_,_,_,_,hst.more oM,za ⟨by have:=Hb.out.1;rw [fN];simp;omega,by have:=Hb.out.2.1;simp;omega,fun l' hl'=>?_⟩⟩;rcases fH hl' with h1|h1
   ·rcases List.mem_append.1 h1 with h1|h1
    ·have:=Hb.out.2.2 l' h1;omega
    ·rw [List.mem_singleton.1 h1];have:=U.out;omega
   ·rw [h1];simp;have:=U.out;omega
  ·have bj:((y:Int)==0)=false:=by simp;omega
   have h1':((y:Int)==1)=false:=by simp;omega
   have ah:((y:Int)==2)=false:=by simp;omega
   go_wp2_with fail
   go_meet;exact⟨_,_,_,_,_,zkc.more oM,za (Hb.out.more oM)⟩
 case rest =>
  clear zkc;obtain⟨v,f,ls,vA,I,zkc,aL⟩:=hcut;obtain⟨A5,c5,rfl⟩:=zi zkc.nx;obtain⟨B5,d5,rfl⟩:=zi zkc.acc;obtain⟨f1,f2⟩:=zkc.fin (N:=M+10) (sh:=BdA (L+1)) t bz rfl hRl oM aw oM aL.out;have bz5:=bz.dr zkc.dr oM;have cG:=zkc.blk.cell;have cZ:=bz5.cell;have fZ:=bz5.frozen;go_wp2_with fail
  have cf:=f2.cell;exact bodyPost_ret (v:=.agg #[b.al,.slice A5 ls.length c5,.slice B5 I.length d5]) (by simp [results,Tryz.results194,go_sem,cf]) rfl f1.out
end Go.Proofs.YtcfchopfijalpaaGreatDoor
